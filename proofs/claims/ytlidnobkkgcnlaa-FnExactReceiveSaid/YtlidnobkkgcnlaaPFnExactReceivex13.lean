-- Written by a program out of the translation, for this claim.
import Derived.Test.YtlidnobkkgcnlaaPFnExactReceivex0
import Derived.Test.YtlidnobkkgcnlaaPFnExactReceivex11
import Derived.Test.YtlidnobkkgcnlaaPFnExactReceivex12
namespace Go.Proofs.Ytlidnobkkgcnlaa.PFnExactReceive
open Go.RowKit Go.Proofs.YtlidnobkkgcnlaaW.PrintWords Go.Proofs.YtlidnobkkgcnlaaW.PrintLast Go.Proofs.YtlidnobkkgcnlaaW.PrintMore
attribute [local go_sem] max2_int min2_int max_two min_two max_three min_three max_four min_four   -- for this text's walks alone
set_option linter.unusedVariables false
set_option linter.unusedSimpArgs false

/-! ### impl_Receive: function 20 -/
mutual
def impl_Receive.j0 : Nat → Bool → Int → Int → List ByteArray → Int → List ByteArray → Int → Int → ByteArray → Int → Int → List ByteArray → Int → List ByteArray → Option (Int × Int × List ByteArray × Int × List ByteArray × Bool)
  | 0, _, _, _, _, _, _, _, _, _, _, _, _, _, _ => none
  | k + 1, x22, x158000, x158001, x158002, x158003, x158004, x159000, x159001, x159002, x170000, x170001, x170002, x170003, x170004 => if x22 = true then (some (x170000, x170001, x170002, x170003, x170004, false)) else (if x159001 > x158001 then (impl_Receive.j1 k (decide (x159001 ≤ x158000)) x158000 x158001 x158002 x158003 x158004 x159000 x159001 x159002 x170000 x170001 x170002 x170003 x170004) else (impl_Receive.j1 k false x158000 x158001 x158002 x158003 x158004 x159000 x159001 x159002 x170000 x170001 x170002 x170003 x170004))
def impl_Receive.j1 : Nat → Bool → Int → Int → List ByteArray → Int → List ByteArray → Int → Int → ByteArray → Int → Int → List ByteArray → Int → List ByteArray → Option (Int × Int × List ByteArray × Int × List ByteArray × Bool)
  | 0, _, _, _, _, _, _, _, _, _, _, _, _, _, _ => none
  | k + 1, x35, x158000, x158001, x158002, x158003, x158004, x159000, x159001, x159002, x170000, x170001, x170002, x170003, x170004 => if x35 = true then (if 0 ≤ (wrap64 (x159001 - x158001)) then (if (wrap64 (x159001 - x158001)) ≤ (x170002.length : Int) then ((some (x170002.drop ((wrap64 (x159001 - x158001)) : Int).toNat : List ByteArray)).bind fun y171 => (if x159000 = (wrap64 (x158003 + 1)) then (if x158003 ≥ 1000 then (some (x170000, x159001, y171, x170003, x170004, false)) else (if x170004.length < 8796093022208 then (some (x170000, x159001, y171, wrap64 (x170003 + 1), (x170004 ++ [x159002]), true)) else (none))) else (some (x170000, x159001, y171, x170003, x170004, false)))) else (none)) else (none)) else (if x159000 = (wrap64 (x158003 + 1)) then (if x158003 ≥ 1000 then (some (x170000, x170001, x170002, x170003, x170004, false)) else (if x170004.length < 8796093022208 then (some (x170000, x170001, x170002, wrap64 (x170003 + 1), (x170004 ++ [x159002]), true)) else (none))) else (some (x170000, x170001, x170002, x170003, x170004, false)))
end
def impl_Receive.f (k : Nat) (a0_0 : Int) (a0_1 : Int) (l0_2 : List ByteArray) (a0_3 : Int) (l0_4 : List ByteArray) (a1_0 : Int) (a1_1 : Int) (a1_2 : ByteArray) : Option (Int × Int × List ByteArray × Int × List ByteArray × Bool) := (impl_copyEnd.f a0_0 a0_1 l0_2 a0_3 l0_4).bind fun bt160 => (if a1_0 < 0 then (impl_Receive.j0 k true a0_0 a0_1 l0_2 a0_3 l0_4 a1_0 a1_1 a1_2 bt160.1 bt160.2.1 bt160.2.2.1 bt160.2.2.2.1 bt160.2.2.2.2) else (if (a1_2.size : Int) > 60 then (impl_Receive.j0 k true a0_0 a0_1 l0_2 a0_3 l0_4 a1_0 a1_1 a1_2 bt160.1 bt160.2.1 bt160.2.2.1 bt160.2.2.2.1 bt160.2.2.2.2) else ((impl_EndOk.f k a0_0 a0_1 l0_2 a0_3 l0_4).bind fun t170 => (impl_Receive.j0 k (!t170) a0_0 a0_1 l0_2 a0_3 l0_4 a1_0 a1_1 a1_2 bt160.1 bt160.2.1 bt160.2.2.1 bt160.2.2.2.1 bt160.2.2.2.2))))
theorem impl_Receive.mono_l : ∀ k, (∀ y0 y1 y2 y3 y4 y5 y6 y7 y8 y9 y10 y11 y12 y13, LeO (impl_Receive.j0 k y0 y1 y2 y3 y4 y5 y6 y7 y8 y9 y10 y11 y12 y13) (impl_Receive.j0 (k + 1) y0 y1 y2 y3 y4 y5 y6 y7 y8 y9 y10 y11 y12 y13)) ∧ (∀ y0 y1 y2 y3 y4 y5 y6 y7 y8 y9 y10 y11 y12 y13, LeO (impl_Receive.j1 k y0 y1 y2 y3 y4 y5 y6 y7 y8 y9 y10 y11 y12 y13) (impl_Receive.j1 (k + 1) y0 y1 y2 y3 y4 y5 y6 y7 y8 y9 y10 y11 y12 y13))
  | 0 => ⟨fun _ _ _ _ _ _ _ _ _ _ _ _ _ _ r h => by simp [impl_Receive.j0] at h, fun _ _ _ _ _ _ _ _ _ _ _ _ _ _ r h => by simp [impl_Receive.j1] at h⟩
  | k + 1 => by
    obtain ⟨ih0, ih1⟩ := impl_Receive.mono_l k
    refine ⟨?_, ?_⟩
    · intro y0 y1 y2 y3 y4 y5 y6 y7 y8 y9 y10 y11 y12 y13
      unfold impl_Receive.j0
      repeat' first
      | (with_reducible exact ih0 _ _ _ _ _ _ _ _ _ _ _ _ _ _)
      | (with_reducible exact ih1 _ _ _ _ _ _ _ _ _ _ _ _ _ _)
      | (with_reducible exact impl_EndOk.mono _ _ _ _ _ _)
      | (with_reducible exact LeO.refl _)
      | (with_reducible exact LeO.none _)
      | (with_reducible refine LeO.ite ?_ ?_)
      | (with_reducible refine LeO.bind ?_ (fun _ => ?_))
      | exact ih0 _ _ _ _ _ _ _ _ _ _ _ _ _ _
      | exact ih1 _ _ _ _ _ _ _ _ _ _ _ _ _ _
      | exact impl_EndOk.mono _ _ _ _ _ _
      | exact LeO.none _
      | refine LeO.ite ?_ ?_
      | refine LeO.bind ?_ (fun _ => ?_)
    · intro y0 y1 y2 y3 y4 y5 y6 y7 y8 y9 y10 y11 y12 y13
      unfold impl_Receive.j1
      repeat' first
      | (with_reducible exact ih0 _ _ _ _ _ _ _ _ _ _ _ _ _ _)
      | (with_reducible exact ih1 _ _ _ _ _ _ _ _ _ _ _ _ _ _)
      | (with_reducible exact impl_EndOk.mono _ _ _ _ _ _)
      | (with_reducible exact LeO.refl _)
      | (with_reducible exact LeO.none _)
      | (with_reducible refine LeO.ite ?_ ?_)
      | (with_reducible refine LeO.bind ?_ (fun _ => ?_))
      | exact ih0 _ _ _ _ _ _ _ _ _ _ _ _ _ _
      | exact ih1 _ _ _ _ _ _ _ _ _ _ _ _ _ _
      | exact impl_EndOk.mono _ _ _ _ _ _
      | exact LeO.none _
      | refine LeO.ite ?_ ?_
      | refine LeO.bind ?_ (fun _ => ?_)
theorem impl_Receive.mono : ∀ a0 a1 a2 a3 a4 a5 a6 a7 k, LeO (impl_Receive.f k a0 a1 a2 a3 a4 a5 a6 a7) (impl_Receive.f (k + 1) a0 a1 a2 a3 a4 a5 a6 a7) := by
  intro a0 a1 a2 a3 a4 a5 a6 a7 k
  obtain ⟨ih0, ih1⟩ := impl_Receive.mono_l k
  unfold impl_Receive.f
  repeat' first
      | (with_reducible exact ih0 _ _ _ _ _ _ _ _ _ _ _ _ _ _)
      | (with_reducible exact ih1 _ _ _ _ _ _ _ _ _ _ _ _ _ _)
      | (with_reducible exact impl_EndOk.mono _ _ _ _ _ _)
      | (with_reducible exact LeO.refl _)
      | (with_reducible exact LeO.none _)
      | (with_reducible refine LeO.ite ?_ ?_)
      | (with_reducible refine LeO.bind ?_ (fun _ => ?_))
      | exact ih0 _ _ _ _ _ _ _ _ _ _ _ _ _ _
      | exact ih1 _ _ _ _ _ _ _ _ _ _ _ _ _ _
      | exact impl_EndOk.mono _ _ _ _ _ _
      | exact LeO.none _
      | refine LeO.ite ?_ ?_
      | refine LeO.bind ?_ (fun _ => ?_)
set_option maxHeartbeats 8000000 in
set_option maxRecDepth 100000 in
theorem impl_Receive.calls (k : Nat) (a0_0 : Int) (a0_1 : Int) (A0_2 : Option Addr) (c0_2 : Nat) (l0_2 : List ByteArray) (a0_3 : Int) (A0_4 : Option Addr) (c0_4 : Nat) (l0_4 : List ByteArray) (a1_0 : Int) (a1_1 : Int) (a1_2 : ByteArray) (r1 : Int) (r2 : Int) (r3 : List ByteArray) (r4 : Int) (r5 : List ByteArray) (r6 : Bool) (w : World) (hr0_2 : Kd.C Kd.string w A0_2 l0_2.length l0_2) (hc0_2 : l0_2.length ≤ c0_2) (hr0_4 : Kd.C Kd.string w A0_4 l0_4.length l0_4) (hc0_4 : l0_4.length ≤ c0_4) (h : impl_Receive.f k a0_0 a0_1 l0_2 a0_3 l0_4 a1_0 a1_1 a1_2 = some (r1, r2, r3, r4, r5, r6)) :
    Calls Try.prog 20 #[.agg #[.int .i64 a0_0, .int .i64 a0_1, .slice A0_2 l0_2.length c0_2, .int .i64 a0_3, .slice A0_4 l0_4.length c0_4], .agg #[.int .i64 a1_0, .int .i64 a1_1, .string a1_2]] w fun e w' => ∃ v2_ v4_ : Value, e = .returned (.tuple #[.agg #[.int .i64 r1, .int .i64 r2, v2_, .int .i64 r4, v4_], .bool r6]) ∧ Kd.Q Kd.string 9 w' w.heap.size (fun k_ => some k_ ≠ (v4_ : Value).ownBlock) v2_ r3 ∧ Kd.R Kd.string 9 w' w.heap.size (fun k_ => some k_ ≠ (v2_ : Value).ownBlock) v4_ r5 ∧ Below w.heap.size w w' := by
  have hu26 := Try.underlying26
  have hu36 := Try.underlying36
  have HR0_2 := Aside0.mk hr0_2
  have HC0_2 := Aside0.mk hc0_2
  clear hr0_2 hc0_2
  have HR0_4 := Aside0.mk hr0_4
  have HC0_4 := Aside0.mk hc0_4
  clear hr0_4 hc0_4
  have HB := Aside0.mk (Below.refl w.heap.size w)
  have H : ((impl_copyEnd.f a0_0 a0_1 l0_2 a0_3 l0_4).bind fun bt160 => (if a1_0 < 0 then (impl_Receive.j0 k true a0_0 a0_1 l0_2 a0_3 l0_4 a1_0 a1_1 a1_2 bt160.1 bt160.2.1 bt160.2.2.1 bt160.2.2.2.1 bt160.2.2.2.2) else (if (a1_2.size : Int) > 60 then (impl_Receive.j0 k true a0_0 a0_1 l0_2 a0_3 l0_4 a1_0 a1_1 a1_2 bt160.1 bt160.2.1 bt160.2.2.1 bt160.2.2.2.1 bt160.2.2.2.2) else ((impl_EndOk.f k a0_0 a0_1 l0_2 a0_3 l0_4).bind fun t170 => (impl_Receive.j0 k (!t170) a0_0 a0_1 l0_2 a0_3 l0_4 a1_0 a1_1 a1_2 bt160.1 bt160.2.1 bt160.2.2.1 bt160.2.2.2.1 bt160.2.2.2.2))))) = some (r1, r2, r3, r4, r5, r6) := h
  clear h
  replace H := Option.bind_eq_some_iff.mp H
  obtain ⟨⟨t160, t161, t162, t165, t166⟩, A30, H⟩ := H
  replace H : (if a1_0 < 0 then (impl_Receive.j0 k true a0_0 a0_1 l0_2 a0_3 l0_4 a1_0 a1_1 a1_2 t160 t161 t162 t165 t166) else (if (a1_2.size : Int) > 60 then (impl_Receive.j0 k true a0_0 a0_1 l0_2 a0_3 l0_4 a1_0 a1_1 a1_2 t160 t161 t162 t165 t166) else ((impl_EndOk.f k a0_0 a0_1 l0_2 a0_3 l0_4).bind fun t170 => (impl_Receive.j0 k (!t170) a0_0 a0_1 l0_2 a0_3 l0_4 a1_0 a1_1 a1_2 t160 t161 t162 t165 t166)))) = some (r1, r2, r3, r4, r5, r6) := H
  have A3 := Aside0.mk A30
  clear A30
  have HC4 := Aside0.mk H
  clear H
  go_enter Try.func20, Try.ntmps20
  go_upto_region 2 with (first | ((with_reducible refine gate_dst (N := 2) rfl ?_); (try (refine gate_guard (by rfl) ?_; dsimp only)); refine box_event ?hg (N := 2) ?hd (cs := #[.int .i64 a0_0, .int .i64 a0_1, .slice A0_2 l0_2.length c0_2, .int .i64 a0_3, .slice A0_4 l0_4.length c0_4]) (t := 26) ?hr ?_; (case hd => rfl); (case hg => rfl); (case hr => first | (go_simp; done) | (go_simp; rfl)); intro gb157 hg w5 hbox hb; have n0_ := Aside0.mk (below_step (by repeat (first | (with_reducible first | exact HB.out | apply below_alloc | apply pw_below_drewN | apply below_drew1) | exact HB.out)) hb); have n1_ := Aside0.mk (hbox); have n2_ := Aside0.mk ((by rw [hg]; exact (below_size (by repeat (first | (with_reducible first | exact HB.out | apply below_alloc | apply pw_below_drewN | apply below_drew1) | exact HB.out))) : w.heap.size ≤ gb157)); have n3_ := Aside0.mk ((by rw [hg]; exact (below_size (by repeat (first | (with_reducible first | exact HB.out | apply below_alloc | apply pw_below_drewN | apply below_drew1) | exact HB.out))) : w.heap.size ≤ gb157)); clear HB; have HB := n0_; have BK157 := n1_; have GW157 := n2_; have GE157 := n3_; clear n0_ n1_ n2_ n3_; clear hb hbox hg) | ((with_reducible refine gate_dst (N := 3) rfl ?_); (try (refine gate_guard (by rfl) ?_; dsimp only)); refine box_event ?hg (N := 3) ?hd (cs := #[.int .i64 a1_0, .int .i64 a1_1, .string a1_2]) (t := 36) ?hr ?_; (case hd => rfl); (case hg => rfl); (case hr => first | (go_simp; done) | (go_simp; rfl)); intro gb158 hg w6 hbox hb; have n0_ := Aside0.mk (blk_below (g := gb157) (o := .cells #[.int .i64 a0_0, .int .i64 a0_1, .slice A0_2 l0_2.length c0_2, .int .i64 a0_3, .slice A0_4 l0_4.length c0_4] 26 (0, 0)) (by (with_reducible repeat (first | refine blk_drewN ?_ _ | refine blk_drew ?_ | refine blk_alloc ?_ _)); exact BK157.out) hb); have n1_ := Aside0.mk (below_step (by repeat (first | (with_reducible first | exact HB.out | apply below_alloc | apply pw_below_drewN | apply below_drew1 | refine below_set ?_ GE157.out) | exact HB.out)) hb); have n2_ := Aside0.mk (hbox); have n3_ := Aside0.mk ((by rw [hg]; exact (below_size (by repeat (first | (with_reducible first | exact HB.out | apply below_alloc | apply pw_below_drewN | apply below_drew1 | refine below_set ?_ GE157.out) | exact HB.out))) : w.heap.size ≤ gb158)); have n4_ := Aside0.mk ((by rw [hg]; exact (below_size (by repeat (first | (with_reducible first | exact HB.out | apply below_alloc | apply pw_below_drewN | apply below_drew1 | refine below_set ?_ GE157.out) | exact HB.out))) : w.heap.size ≤ gb158)); have n5_ := Aside0.mk ((by rw [hg]; exact Nat.ne_of_lt (blk_lt (g := gb157) (o := .cells #[.int .i64 a0_0, .int .i64 a0_1, .slice A0_2 l0_2.length c0_2, .int .i64 a0_3, .slice A0_4 l0_4.length c0_4] 26 (0, 0)) (by (with_reducible repeat (first | refine blk_drewN ?_ _ | refine blk_drew ?_ | refine blk_alloc ?_ _)); exact BK157.out)) : gb157 ≠ gb158)); have n6_ := Aside0.mk ((by rw [hg]; exact Nat.ne_of_gt (blk_lt (g := gb157) (o := .cells #[.int .i64 a0_0, .int .i64 a0_1, .slice A0_2 l0_2.length c0_2, .int .i64 a0_3, .slice A0_4 l0_4.length c0_4] 26 (0, 0)) (by (with_reducible repeat (first | refine blk_drewN ?_ _ | refine blk_drew ?_ | refine blk_alloc ?_ _)); exact BK157.out)) : gb158 ≠ gb157)); clear BK157; clear HB; have BK157 := n0_; have HB := n1_; have BK158 := n2_; have GW158 := n3_; have GE158 := n4_; have NB157_158 := n5_; have NB158_157 := n6_; clear n0_ n1_ n2_ n3_ n4_ n5_ n6_; clear hb hbox hg) | ((with_reducible refine gate_dst (N := 4) rfl ?_); (try (refine gate_guard (by rfl) ?_; dsimp only)); refine box_event ?hg (N := 4) ?hd (cs := #[.int .i64 0, .int .i64 0, .slice none 0 0, .int .i64 0, .slice none 0 0]) (t := 26) ?hr ?_; (case hd => rfl); (case hg => rfl); (case hr => first | (go_simp; done) | (go_simp; rfl)); intro gb159 hg w7 hbox hb; have n0_ := Aside0.mk (blk_below (g := gb157) (o := .cells #[.int .i64 a0_0, .int .i64 a0_1, .slice A0_2 l0_2.length c0_2, .int .i64 a0_3, .slice A0_4 l0_4.length c0_4] 26 (0, 0)) (by (with_reducible repeat (first | refine blk_drewN ?_ _ | refine blk_drew ?_ | refine blk_alloc ?_ _)); exact BK157.out) hb); have n1_ := Aside0.mk (blk_below (g := gb158) (o := .cells #[.int .i64 a1_0, .int .i64 a1_1, .string a1_2] 36 (0, 0)) (by (with_reducible repeat (first | refine blk_drewN ?_ _ | refine blk_drew ?_ | refine blk_alloc ?_ _)); exact BK158.out) hb); have n2_ := Aside0.mk (below_step (by repeat (first | (with_reducible first | exact HB.out | apply below_alloc | apply pw_below_drewN | apply below_drew1 | refine below_set ?_ GE157.out | refine below_set ?_ GE158.out) | exact HB.out)) hb); have n3_ := Aside0.mk (hbox); have n4_ := Aside0.mk ((by rw [hg]; exact (below_size (by repeat (first | (with_reducible first | exact HB.out | apply below_alloc | apply pw_below_drewN | apply below_drew1 | refine below_set ?_ GE157.out | refine below_set ?_ GE158.out) | exact HB.out))) : w.heap.size ≤ gb159)); have n5_ := Aside0.mk ((by rw [hg]; exact (below_size (by repeat (first | (with_reducible first | exact HB.out | apply below_alloc | apply pw_below_drewN | apply below_drew1 | refine below_set ?_ GE157.out | refine below_set ?_ GE158.out) | exact HB.out))) : w.heap.size ≤ gb159)); have n6_ := Aside0.mk ((by rw [hg]; exact Nat.ne_of_lt (blk_lt (g := gb157) (o := .cells #[.int .i64 a0_0, .int .i64 a0_1, .slice A0_2 l0_2.length c0_2, .int .i64 a0_3, .slice A0_4 l0_4.length c0_4] 26 (0, 0)) (by (with_reducible repeat (first | refine blk_drewN ?_ _ | refine blk_drew ?_ | refine blk_alloc ?_ _)); exact BK157.out)) : gb157 ≠ gb159)); have n7_ := Aside0.mk ((by rw [hg]; exact Nat.ne_of_gt (blk_lt (g := gb157) (o := .cells #[.int .i64 a0_0, .int .i64 a0_1, .slice A0_2 l0_2.length c0_2, .int .i64 a0_3, .slice A0_4 l0_4.length c0_4] 26 (0, 0)) (by (with_reducible repeat (first | refine blk_drewN ?_ _ | refine blk_drew ?_ | refine blk_alloc ?_ _)); exact BK157.out)) : gb159 ≠ gb157)); have n8_ := Aside0.mk ((by rw [hg]; exact Nat.ne_of_lt (blk_lt (g := gb158) (o := .cells #[.int .i64 a1_0, .int .i64 a1_1, .string a1_2] 36 (0, 0)) (by (with_reducible repeat (first | refine blk_drewN ?_ _ | refine blk_drew ?_ | refine blk_alloc ?_ _)); exact BK158.out)) : gb158 ≠ gb159)); have n9_ := Aside0.mk ((by rw [hg]; exact Nat.ne_of_gt (blk_lt (g := gb158) (o := .cells #[.int .i64 a1_0, .int .i64 a1_1, .string a1_2] 36 (0, 0)) (by (with_reducible repeat (first | refine blk_drewN ?_ _ | refine blk_drew ?_ | refine blk_alloc ?_ _)); exact BK158.out)) : gb159 ≠ gb158)); clear BK157; clear BK158; clear HB; have BK157 := n0_; have BK158 := n1_; have HB := n2_; have BK159 := n3_; have GW159 := n4_; have GE159 := n5_; have NB157_159 := n6_; have NB159_157 := n7_; have NB158_159 := n8_; have NB159_158 := n9_; clear n0_ n1_ n2_ n3_ n4_ n5_ n6_ n7_ n8_ n9_; clear hb hbox hg; have hnb8 := NB157_158.out; have hnc8 := NB158_157.out; have hnb9 := NB157_159.out; have hnc9 := NB159_157.out; have hcz10_0 : w7.cell? ⟨gb157, 0, none⟩ = some (.int .i64 a0_0) := (blk_cell BK157.out 0).trans rfl; have hcz10_1 : w7.cell? ⟨gb157, 1, none⟩ = some (.int .i64 a0_1) := (blk_cell BK157.out 1).trans rfl; have hcz10_2 : w7.cell? ⟨gb157, 2, none⟩ = some (.slice A0_2 l0_2.length c0_2) := (blk_cell BK157.out 2).trans rfl; have hcz10_3 : w7.cell? ⟨gb157, 3, none⟩ = some (.int .i64 a0_3) := (blk_cell BK157.out 3).trans rfl; have hcz10_4 : w7.cell? ⟨gb157, 4, none⟩ = some (.slice A0_4 l0_4.length c0_4) := (blk_cell BK157.out 4).trans rfl; have hfz10_0 := blk_frozen BK157.out 0; have hfz10_1 := blk_frozen BK157.out 1; have hfz10_2 := blk_frozen BK157.out 2; have hfz10_3 := blk_frozen BK157.out 3; have hfz10_4 := blk_frozen BK157.out 4) | ((with_reducible refine gate_callee (f := 46) rfl ?_); refine goesL_ (some 8) rfl rfl Try.func46 (by kernel_rfl) rfl #[.agg #[.int .i64 a0_0, .int .i64 a0_1, .slice A0_2 l0_2.length c0_2, .int .i64 a0_3, .slice A0_4 l0_4.length c0_4]] rfl (by (try simp only [List.map_toArray, List.map_cons, List.map_nil]); first | done | rfl | (simp only [List.length_drop, List.length_take]; rfl)) ?_; (with_reducible refine (impl_copyEnd.calls a0_0 a0_1 _ _ l0_2 a0_3 _ _ l0_4 t160 t161 t162 t165 t166 _ ?side1 ?side2 ?side3 ?side4 A3.out).mono ?_); (case side1 => repeat (first | exact (Kd.C_below HR0_2.out HB.out) | (with_reducible refine Kd.C_alloc ?_ _) | (with_reducible refine Kd.C_drewN ?_ _) | (with_reducible refine Kd.C_drew ?_))); (case side2 => exact HC0_2.out); (case side3 => repeat (first | exact (Kd.C_below HR0_4.out HB.out) | (with_reducible refine Kd.C_alloc ?_ _) | (with_reducible refine Kd.C_drewN ?_ _) | (with_reducible refine Kd.C_drew ?_))); (case side4 => exact HC0_4.out); rintro e w11 ⟨v163, v167, rfl, ho0, ho1, hb⟩; refine ⟨_, rfl, ?_⟩; have n0_ := Aside0.mk (Kd.R_lower ho0 (below_size (by repeat (first | (with_reducible first | exact HB.out | apply below_alloc | apply pw_below_drewN | apply below_drew1 | refine below_set ?_ GE157.out | refine below_set ?_ GE158.out | refine below_set ?_ GE159.out) | exact HB.out)))); have n1_ := Aside0.mk (Kd.R_lower ho1 (below_size (by repeat (first | (with_reducible first | exact HB.out | apply below_alloc | apply pw_below_drewN | apply below_drew1 | refine below_set ?_ GE157.out | refine below_set ?_ GE158.out | refine below_set ?_ GE159.out) | exact HB.out)))); have n2_ := Aside0.mk (blk_below (g := gb157) (o := .cells #[.int .i64 a0_0, .int .i64 a0_1, .slice A0_2 l0_2.length c0_2, .int .i64 a0_3, .slice A0_4 l0_4.length c0_4] 26 (0, 0)) (by (with_reducible repeat (first | refine blk_drewN ?_ _ | refine blk_drew ?_ | refine blk_alloc ?_ _)); exact BK157.out) hb); have n3_ := Aside0.mk (blk_below (g := gb158) (o := .cells #[.int .i64 a1_0, .int .i64 a1_1, .string a1_2] 36 (0, 0)) (by (with_reducible repeat (first | refine blk_drewN ?_ _ | refine blk_drew ?_ | refine blk_alloc ?_ _)); exact BK158.out) hb); have n4_ := Aside0.mk (blk_below (g := gb159) (o := .cells #[.int .i64 0, .int .i64 0, .slice none 0 0, .int .i64 0, .slice none 0 0] 26 (0, 0)) (by (with_reducible repeat (first | refine blk_drewN ?_ _ | refine blk_drew ?_ | refine blk_alloc ?_ _)); exact BK159.out) hb); have n5_ := Aside0.mk (below_step (by repeat (first | (with_reducible first | exact HB.out | apply below_alloc | apply pw_below_drewN | apply below_drew1 | refine below_set ?_ GE157.out | refine below_set ?_ GE158.out | refine below_set ?_ GE159.out) | exact HB.out)) hb); clear BK157; clear BK158; clear BK159; clear HB; have HO164 := n0_; have HO168 := n1_; have BK157 := n2_; have BK158 := n3_; have BK159 := n4_; have HB := n5_; clear n0_ n1_ n2_ n3_ n4_ n5_; (try clear hb); (try clear hb2); (try clear hk); (try clear hi); (try clear ho0); (try clear ho1)) | ((with_reducible refine gate_dst (N := 6) rfl ?_); (try (refine gate_guard (by rfl) ?_; dsimp only)); refine box_event ?hg (N := 6) ?hd (cs := #[.int .i64 0, .int .i64 0, .slice none 0 0, .int .i64 0, .slice none 0 0]) (t := 26) ?hr ?_; (case hd => rfl); (case hg => rfl); (case hr => first | (go_simp; done) | (go_simp; rfl)); intro gb169 hg w12 hbox hb; have n0_ := Aside0.mk (Kd.R_below (by (with_reducible repeat (first | apply Kd.R_alloc | apply Kd.R_drewN | apply Kd.R_drew)); exact HO164.out) hb); have n1_ := Aside0.mk (Kd.R_below (by (with_reducible repeat (first | apply Kd.R_alloc | apply Kd.R_drewN | apply Kd.R_drew)); exact HO168.out) hb); have n2_ := Aside0.mk (blk_below (g := gb157) (o := .cells #[.int .i64 a0_0, .int .i64 a0_1, .slice A0_2 l0_2.length c0_2, .int .i64 a0_3, .slice A0_4 l0_4.length c0_4] 26 (0, 0)) (by (with_reducible repeat (first | refine blk_drewN ?_ _ | refine blk_drew ?_ | refine blk_alloc ?_ _)); exact BK157.out) hb); have n3_ := Aside0.mk (blk_below (g := gb158) (o := .cells #[.int .i64 a1_0, .int .i64 a1_1, .string a1_2] 36 (0, 0)) (by (with_reducible repeat (first | refine blk_drewN ?_ _ | refine blk_drew ?_ | refine blk_alloc ?_ _)); exact BK158.out) hb); have n4_ := Aside0.mk (blk_below (g := gb159) (o := .cells #[.int .i64 0, .int .i64 0, .slice none 0 0, .int .i64 0, .slice none 0 0] 26 (0, 0)) (by (with_reducible repeat (first | refine blk_drewN ?_ _ | refine blk_drew ?_ | refine blk_alloc ?_ _)); exact BK159.out) hb); have n5_ := Aside0.mk (below_step (by repeat (first | (with_reducible first | exact HB.out | apply below_alloc | apply pw_below_drewN | apply below_drew1 | refine below_set ?_ GE157.out | refine below_set ?_ GE158.out | refine below_set ?_ GE159.out) | exact HB.out)) hb); have n6_ := Aside0.mk (hbox); have n7_ := Aside0.mk ((by rw [hg]; exact (below_size (by repeat (first | (with_reducible first | exact HB.out | apply below_alloc | apply pw_below_drewN | apply below_drew1 | refine below_set ?_ GE157.out | refine below_set ?_ GE158.out | refine below_set ?_ GE159.out) | exact HB.out))) : w.heap.size ≤ gb169)); have n8_ := Aside0.mk ((by rw [hg]; exact (below_size (by repeat (first | (with_reducible first | exact HB.out | apply below_alloc | apply pw_below_drewN | apply below_drew1 | refine below_set ?_ GE157.out | refine below_set ?_ GE158.out | refine below_set ?_ GE159.out) | exact HB.out))) : w.heap.size ≤ gb169)); have n9_ := Aside0.mk ((by rw [hg]; exact Nat.ne_of_lt (blk_lt (g := gb157) (o := .cells #[.int .i64 a0_0, .int .i64 a0_1, .slice A0_2 l0_2.length c0_2, .int .i64 a0_3, .slice A0_4 l0_4.length c0_4] 26 (0, 0)) (by (with_reducible repeat (first | refine blk_drewN ?_ _ | refine blk_drew ?_ | refine blk_alloc ?_ _)); exact BK157.out)) : gb157 ≠ gb169)); have n10_ := Aside0.mk ((by rw [hg]; exact Nat.ne_of_gt (blk_lt (g := gb157) (o := .cells #[.int .i64 a0_0, .int .i64 a0_1, .slice A0_2 l0_2.length c0_2, .int .i64 a0_3, .slice A0_4 l0_4.length c0_4] 26 (0, 0)) (by (with_reducible repeat (first | refine blk_drewN ?_ _ | refine blk_drew ?_ | refine blk_alloc ?_ _)); exact BK157.out)) : gb169 ≠ gb157)); have n11_ := Aside0.mk ((by rw [hg]; exact Nat.ne_of_lt (blk_lt (g := gb158) (o := .cells #[.int .i64 a1_0, .int .i64 a1_1, .string a1_2] 36 (0, 0)) (by (with_reducible repeat (first | refine blk_drewN ?_ _ | refine blk_drew ?_ | refine blk_alloc ?_ _)); exact BK158.out)) : gb158 ≠ gb169)); have n12_ := Aside0.mk ((by rw [hg]; exact Nat.ne_of_gt (blk_lt (g := gb158) (o := .cells #[.int .i64 a1_0, .int .i64 a1_1, .string a1_2] 36 (0, 0)) (by (with_reducible repeat (first | refine blk_drewN ?_ _ | refine blk_drew ?_ | refine blk_alloc ?_ _)); exact BK158.out)) : gb169 ≠ gb158)); have n13_ := Aside0.mk ((by rw [hg]; exact Nat.ne_of_lt (blk_lt (g := gb159) (o := .cells #[.int .i64 0, .int .i64 0, .slice none 0 0, .int .i64 0, .slice none 0 0] 26 (0, 0)) (by (with_reducible repeat (first | refine blk_drewN ?_ _ | refine blk_drew ?_ | refine blk_alloc ?_ _)); exact BK159.out)) : gb159 ≠ gb169)); have n14_ := Aside0.mk ((by rw [hg]; exact Nat.ne_of_gt (blk_lt (g := gb159) (o := .cells #[.int .i64 0, .int .i64 0, .slice none 0 0, .int .i64 0, .slice none 0 0] 26 (0, 0)) (by (with_reducible repeat (first | refine blk_drewN ?_ _ | refine blk_drew ?_ | refine blk_alloc ?_ _)); exact BK159.out)) : gb169 ≠ gb159)); clear HO164; clear HO168; clear BK157; clear BK158; clear BK159; clear HB; have HO164 := n0_; have HO168 := n1_; have BK157 := n2_; have BK158 := n3_; have BK159 := n4_; have HB := n5_; have BK169 := n6_; have GW169 := n7_; have GE169 := n8_; have NB157_169 := n9_; have NB169_157 := n10_; have NB158_169 := n11_; have NB169_158 := n12_; have NB159_169 := n13_; have NB169_159 := n14_; clear n0_ n1_ n2_ n3_ n4_ n5_ n6_ n7_ n8_ n9_ n10_ n11_ n12_ n13_ n14_; clear hb hbox hg; have hnb13 := NB169_157.out; have hnc13 := NB157_169.out; have hnb14 := NB169_158.out; have hnc14 := NB158_169.out; have hnb15 := NB169_159.out; have hnc15 := NB159_169.out; have hcz16_0 : w12.cell? ⟨gb169, 0, none⟩ = some (.int .i64 0) := (blk_cell BK169.out 0).trans rfl; have hcz16_1 : w12.cell? ⟨gb169, 1, none⟩ = some (.int .i64 0) := (blk_cell BK169.out 1).trans rfl; have hcz16_2 : w12.cell? ⟨gb169, 2, none⟩ = some (.slice none 0 0) := (blk_cell BK169.out 2).trans rfl; have hcz16_3 : w12.cell? ⟨gb169, 3, none⟩ = some (.int .i64 0) := (blk_cell BK169.out 3).trans rfl; have hcz16_4 : w12.cell? ⟨gb169, 4, none⟩ = some (.slice none 0 0) := (blk_cell BK169.out 4).trans rfl; have hfz16_0 := blk_frozen BK169.out 0; have hfz16_1 := blk_frozen BK169.out 1; have hfz16_2 := blk_frozen BK169.out 2; have hfz16_3 := blk_frozen BK169.out 3; have hfz16_4 := blk_frozen BK169.out 4; obtain ⟨Ao17, co17, eo17⟩ := Kd.R_slice HO164.out; subst eo17; obtain ⟨Ao18, co18, eo18⟩ := Kd.R_slice HO168.out; subst eo18))
  (try simp only [Act.put, List.setIfInBounds_toArray, List.set_cons_zero, List.set_cons_succ])
  go_cut [22] (fun v22 wc => ∃ (kq : Nat) (x22_3 : Bool), v22 = .bool x22_3 ∧ Aside0 (impl_Receive.j0 kq x22_3 a0_0 a0_1 l0_2 a0_3 l0_4 a1_0 a1_1 a1_2 t160 t161 t162 t165 t166 = some (r1, r2, r3, r4, r5, r6)) ∧ Aside0 (kq ≤ k) ∧ Aside0 (Kd.Q Kd.string 9 wc w.heap.size (fun k_ => some k_ ≠ ((.slice Ao18 t166.length co18) : Value).ownBlock) (.slice Ao17 t162.length co17) t162) ∧ Aside0 (Kd.R Kd.string 9 wc w.heap.size (fun k_ => some k_ ≠ ((.slice Ao17 t162.length co17) : Value).ownBlock) (.slice Ao18 t166.length co18) t166) ∧ Aside0 (wc.heap[gb157]? = some (.cells #[.int .i64 a0_0, .int .i64 a0_1, (.slice A0_2 l0_2.length c0_2), .int .i64 a0_3, (.slice A0_4 l0_4.length c0_4)] 26 (0, 0))) ∧ Aside0 (wc.heap[gb158]? = some (.cells #[.int .i64 a1_0, .int .i64 a1_1, .string a1_2] 36 (0, 0))) ∧ Aside0 (wc.heap[gb159]? = some (.cells #[.int .i64 0, .int .i64 0, (.slice none 0 0), .int .i64 0, (.slice none 0 0)] 26 (0, 0))) ∧ Aside0 (wc.heap[gb169]? = some (.cells #[.int .i64 t160, .int .i64 t161, (.slice Ao17 t162.length co17), .int .i64 t165, (.slice Ao18 t166.length co18)] 26 (0, 0))) ∧ Aside0 (Below w.heap.size w wc))
  case first =>
    have H := HC4.out
    clear HC4
    by_cases c19 : a1_0 < 0
    · rw [if_pos c19] at H
      have c19b0 : decide (a1_0 < 0) = true := decide_eq_true c19
      clear c19
      (first | rw [c19b0] | (simp only [i64_w, i32_w]; rw [c19b0]) | skip)
      have H' := Aside0.mk H
      clear H
      have hnb20 := NB158_157.out
      have hnc20 := NB157_158.out
      have hnb21 := NB158_159.out
      have hnc21 := NB159_158.out
      have hnb22 := NB158_169.out
      have hnc22 := NB169_158.out
      have hcz23_0 : w12.cell? ⟨gb158, 0, none⟩ = some (.int .i64 a1_0) := (blk_cell BK158.out 0).trans rfl
      have hcz23_1 : w12.cell? ⟨gb158, 1, none⟩ = some (.int .i64 a1_1) := (blk_cell BK158.out 1).trans rfl
      have hcz23_2 : w12.cell? ⟨gb158, 2, none⟩ = some (.string a1_2) := (blk_cell BK158.out 2).trans rfl
      have hfz23_0 := blk_frozen BK158.out 0
      have hfz23_1 := blk_frozen BK158.out 1
      have hfz23_2 := blk_frozen BK158.out 2
      go_wp2
      go_meet
      case rel => exact ⟨_, (true), (by first | rfl | (simp; done) | (simp [*]; done)), H', ⟨by first | omega | exact Nat.le_refl _⟩, ⟨Kd.Q_of_R (by (with_reducible repeat (first | apply Kd.R_alloc | apply Kd.R_drewN | apply Kd.R_drew)); exact Kd.R_mono (Kd.R_far (p := ⟨gb169, 4, none⟩) (Kd.R_far (p := ⟨gb169, 3, none⟩) (Kd.R_far (p := ⟨gb169, 2, none⟩) (Kd.R_far (p := ⟨gb169, 1, none⟩) (Kd.R_far (p := ⟨gb169, 0, none⟩) (Kd.R_types HO164.out BK169.out (by decide)) (fun _ hk => hk.2) (.int .i64 t160)) (fun _ hk => hk.2) (.int .i64 t161)) (fun _ hk => hk.2) (.slice Ao17 t162.length co17)) (fun _ hk => hk.2) (.int .i64 t165)) (fun _ hk => hk.2) (.slice Ao18 t166.length co18)) (fun _ hk => hk.1))⟩, ⟨by (with_reducible repeat (first | apply Kd.R_alloc | apply Kd.R_drewN | apply Kd.R_drew)); exact Kd.R_mono (Kd.R_far (p := ⟨gb169, 4, none⟩) (Kd.R_far (p := ⟨gb169, 3, none⟩) (Kd.R_far (p := ⟨gb169, 2, none⟩) (Kd.R_far (p := ⟨gb169, 1, none⟩) (Kd.R_far (p := ⟨gb169, 0, none⟩) (Kd.R_types HO168.out BK169.out (by decide)) (fun _ hk => hk.2) (.int .i64 t160)) (fun _ hk => hk.2) (.int .i64 t161)) (fun _ hk => hk.2) (.slice Ao17 t162.length co17)) (fun _ hk => hk.2) (.int .i64 t165)) (fun _ hk => hk.2) (.slice Ao18 t166.length co18)) (fun _ hk => hk.1)⟩, ⟨by (with_reducible repeat (first | refine blk_drewN ?_ _ | refine blk_drew ?_ | refine blk_alloc ?_ _)); refine blk_far ?_ NB157_169.out _; (with_reducible repeat (first | refine blk_drewN ?_ _ | refine blk_drew ?_ | refine blk_alloc ?_ _)); refine blk_far ?_ NB157_169.out _; (with_reducible repeat (first | refine blk_drewN ?_ _ | refine blk_drew ?_ | refine blk_alloc ?_ _)); refine blk_far ?_ NB157_169.out _; (with_reducible repeat (first | refine blk_drewN ?_ _ | refine blk_drew ?_ | refine blk_alloc ?_ _)); refine blk_far ?_ NB157_169.out _; (with_reducible repeat (first | refine blk_drewN ?_ _ | refine blk_drew ?_ | refine blk_alloc ?_ _)); refine blk_far ?_ NB157_169.out _; (with_reducible repeat (first | refine blk_drewN ?_ _ | refine blk_drew ?_ | refine blk_alloc ?_ _)); exact BK157.out⟩, ⟨by (with_reducible repeat (first | refine blk_drewN ?_ _ | refine blk_drew ?_ | refine blk_alloc ?_ _)); refine blk_far ?_ NB158_169.out _; (with_reducible repeat (first | refine blk_drewN ?_ _ | refine blk_drew ?_ | refine blk_alloc ?_ _)); refine blk_far ?_ NB158_169.out _; (with_reducible repeat (first | refine blk_drewN ?_ _ | refine blk_drew ?_ | refine blk_alloc ?_ _)); refine blk_far ?_ NB158_169.out _; (with_reducible repeat (first | refine blk_drewN ?_ _ | refine blk_drew ?_ | refine blk_alloc ?_ _)); refine blk_far ?_ NB158_169.out _; (with_reducible repeat (first | refine blk_drewN ?_ _ | refine blk_drew ?_ | refine blk_alloc ?_ _)); refine blk_far ?_ NB158_169.out _; (with_reducible repeat (first | refine blk_drewN ?_ _ | refine blk_drew ?_ | refine blk_alloc ?_ _)); exact BK158.out⟩, ⟨by (with_reducible repeat (first | refine blk_drewN ?_ _ | refine blk_drew ?_ | refine blk_alloc ?_ _)); refine blk_far ?_ NB159_169.out _; (with_reducible repeat (first | refine blk_drewN ?_ _ | refine blk_drew ?_ | refine blk_alloc ?_ _)); refine blk_far ?_ NB159_169.out _; (with_reducible repeat (first | refine blk_drewN ?_ _ | refine blk_drew ?_ | refine blk_alloc ?_ _)); refine blk_far ?_ NB159_169.out _; (with_reducible repeat (first | refine blk_drewN ?_ _ | refine blk_drew ?_ | refine blk_alloc ?_ _)); refine blk_far ?_ NB159_169.out _; (with_reducible repeat (first | refine blk_drewN ?_ _ | refine blk_drew ?_ | refine blk_alloc ?_ _)); refine blk_far ?_ NB159_169.out _; (with_reducible repeat (first | refine blk_drewN ?_ _ | refine blk_drew ?_ | refine blk_alloc ?_ _)); exact BK159.out⟩, ⟨by (with_reducible repeat (first | refine blk_drewN ?_ _ | refine blk_drew ?_ | refine blk_alloc ?_ _)); refine blk_put (cs := #[.int .i64 t160, .int .i64 t161, .slice Ao17 t162.length co17, .int .i64 t165, .slice none 0 0]) ?_ 4 _ rfl; (with_reducible repeat (first | refine blk_drewN ?_ _ | refine blk_drew ?_ | refine blk_alloc ?_ _)); refine blk_put (cs := #[.int .i64 t160, .int .i64 t161, .slice Ao17 t162.length co17, .int .i64 0, .slice none 0 0]) ?_ 3 _ rfl; (with_reducible repeat (first | refine blk_drewN ?_ _ | refine blk_drew ?_ | refine blk_alloc ?_ _)); refine blk_put (cs := #[.int .i64 t160, .int .i64 t161, .slice none 0 0, .int .i64 0, .slice none 0 0]) ?_ 2 _ rfl; (with_reducible repeat (first | refine blk_drewN ?_ _ | refine blk_drew ?_ | refine blk_alloc ?_ _)); refine blk_put (cs := #[.int .i64 t160, .int .i64 0, .slice none 0 0, .int .i64 0, .slice none 0 0]) ?_ 1 _ rfl; (with_reducible repeat (first | refine blk_drewN ?_ _ | refine blk_drew ?_ | refine blk_alloc ?_ _)); refine blk_put (cs := #[.int .i64 0, .int .i64 0, .slice none 0 0, .int .i64 0, .slice none 0 0]) ?_ 0 _ rfl; (with_reducible repeat (first | refine blk_drewN ?_ _ | refine blk_drew ?_ | refine blk_alloc ?_ _)); exact BK169.out⟩, ⟨by repeat (first | (with_reducible first | exact HB.out | apply below_alloc | apply pw_below_drewN | apply below_drew1 | refine below_set ?_ GE157.out | refine below_set ?_ GE158.out | refine below_set ?_ GE159.out | refine below_set ?_ GE169.out) | exact HB.out)⟩⟩
    · rw [if_neg c19] at H
      have c19b0 : decide (a1_0 < 0) = false := decide_eq_false c19
      clear c19
      (first | rw [c19b0] | (simp only [i64_w, i32_w]; rw [c19b0]) | skip)
      by_cases c24 : (a1_2.size : Int) > 60
      · rw [if_pos c24] at H
        have c24b0 : decide (60 < (a1_2.size : Int)) = true := decide_eq_true c24
        have c24b1 : decide (60 < a1_2.size) = true := decide_eq_true (by omega)
        clear c24
        have H' := Aside0.mk H
        clear H
        have hnb25 := NB158_157.out
        have hnc25 := NB157_158.out
        have hnb26 := NB158_159.out
        have hnc26 := NB159_158.out
        have hnb27 := NB158_169.out
        have hnc27 := NB169_158.out
        have hcz28_0 : w12.cell? ⟨gb158, 0, none⟩ = some (.int .i64 a1_0) := (blk_cell BK158.out 0).trans rfl
        have hcz28_1 : w12.cell? ⟨gb158, 1, none⟩ = some (.int .i64 a1_1) := (blk_cell BK158.out 1).trans rfl
        have hcz28_2 : w12.cell? ⟨gb158, 2, none⟩ = some (.string a1_2) := (blk_cell BK158.out 2).trans rfl
        have hfz28_0 := blk_frozen BK158.out 0
        have hfz28_1 := blk_frozen BK158.out 1
        have hfz28_2 := blk_frozen BK158.out 2
        go_wp2
        go_meet
        case rel => exact ⟨_, (true), (by first | rfl | (simp; done) | (simp [*]; done)), H', ⟨by first | omega | exact Nat.le_refl _⟩, ⟨Kd.Q_of_R (by (with_reducible repeat (first | apply Kd.R_alloc | apply Kd.R_drewN | apply Kd.R_drew)); exact Kd.R_mono (Kd.R_far (p := ⟨gb169, 4, none⟩) (Kd.R_far (p := ⟨gb169, 3, none⟩) (Kd.R_far (p := ⟨gb169, 2, none⟩) (Kd.R_far (p := ⟨gb169, 1, none⟩) (Kd.R_far (p := ⟨gb169, 0, none⟩) (Kd.R_types HO164.out BK169.out (by decide)) (fun _ hk => hk.2) (.int .i64 t160)) (fun _ hk => hk.2) (.int .i64 t161)) (fun _ hk => hk.2) (.slice Ao17 t162.length co17)) (fun _ hk => hk.2) (.int .i64 t165)) (fun _ hk => hk.2) (.slice Ao18 t166.length co18)) (fun _ hk => hk.1))⟩, ⟨by (with_reducible repeat (first | apply Kd.R_alloc | apply Kd.R_drewN | apply Kd.R_drew)); exact Kd.R_mono (Kd.R_far (p := ⟨gb169, 4, none⟩) (Kd.R_far (p := ⟨gb169, 3, none⟩) (Kd.R_far (p := ⟨gb169, 2, none⟩) (Kd.R_far (p := ⟨gb169, 1, none⟩) (Kd.R_far (p := ⟨gb169, 0, none⟩) (Kd.R_types HO168.out BK169.out (by decide)) (fun _ hk => hk.2) (.int .i64 t160)) (fun _ hk => hk.2) (.int .i64 t161)) (fun _ hk => hk.2) (.slice Ao17 t162.length co17)) (fun _ hk => hk.2) (.int .i64 t165)) (fun _ hk => hk.2) (.slice Ao18 t166.length co18)) (fun _ hk => hk.1)⟩, ⟨by (with_reducible repeat (first | refine blk_drewN ?_ _ | refine blk_drew ?_ | refine blk_alloc ?_ _)); refine blk_far ?_ NB157_169.out _; (with_reducible repeat (first | refine blk_drewN ?_ _ | refine blk_drew ?_ | refine blk_alloc ?_ _)); refine blk_far ?_ NB157_169.out _; (with_reducible repeat (first | refine blk_drewN ?_ _ | refine blk_drew ?_ | refine blk_alloc ?_ _)); refine blk_far ?_ NB157_169.out _; (with_reducible repeat (first | refine blk_drewN ?_ _ | refine blk_drew ?_ | refine blk_alloc ?_ _)); refine blk_far ?_ NB157_169.out _; (with_reducible repeat (first | refine blk_drewN ?_ _ | refine blk_drew ?_ | refine blk_alloc ?_ _)); refine blk_far ?_ NB157_169.out _; (with_reducible repeat (first | refine blk_drewN ?_ _ | refine blk_drew ?_ | refine blk_alloc ?_ _)); exact BK157.out⟩, ⟨by (with_reducible repeat (first | refine blk_drewN ?_ _ | refine blk_drew ?_ | refine blk_alloc ?_ _)); refine blk_far ?_ NB158_169.out _; (with_reducible repeat (first | refine blk_drewN ?_ _ | refine blk_drew ?_ | refine blk_alloc ?_ _)); refine blk_far ?_ NB158_169.out _; (with_reducible repeat (first | refine blk_drewN ?_ _ | refine blk_drew ?_ | refine blk_alloc ?_ _)); refine blk_far ?_ NB158_169.out _; (with_reducible repeat (first | refine blk_drewN ?_ _ | refine blk_drew ?_ | refine blk_alloc ?_ _)); refine blk_far ?_ NB158_169.out _; (with_reducible repeat (first | refine blk_drewN ?_ _ | refine blk_drew ?_ | refine blk_alloc ?_ _)); refine blk_far ?_ NB158_169.out _; (with_reducible repeat (first | refine blk_drewN ?_ _ | refine blk_drew ?_ | refine blk_alloc ?_ _)); exact BK158.out⟩, ⟨by (with_reducible repeat (first | refine blk_drewN ?_ _ | refine blk_drew ?_ | refine blk_alloc ?_ _)); refine blk_far ?_ NB159_169.out _; (with_reducible repeat (first | refine blk_drewN ?_ _ | refine blk_drew ?_ | refine blk_alloc ?_ _)); refine blk_far ?_ NB159_169.out _; (with_reducible repeat (first | refine blk_drewN ?_ _ | refine blk_drew ?_ | refine blk_alloc ?_ _)); refine blk_far ?_ NB159_169.out _; (with_reducible repeat (first | refine blk_drewN ?_ _ | refine blk_drew ?_ | refine blk_alloc ?_ _)); refine blk_far ?_ NB159_169.out _; (with_reducible repeat (first | refine blk_drewN ?_ _ | refine blk_drew ?_ | refine blk_alloc ?_ _)); refine blk_far ?_ NB159_169.out _; (with_reducible repeat (first | refine blk_drewN ?_ _ | refine blk_drew ?_ | refine blk_alloc ?_ _)); exact BK159.out⟩, ⟨by (with_reducible repeat (first | refine blk_drewN ?_ _ | refine blk_drew ?_ | refine blk_alloc ?_ _)); refine blk_put (cs := #[.int .i64 t160, .int .i64 t161, .slice Ao17 t162.length co17, .int .i64 t165, .slice none 0 0]) ?_ 4 _ rfl; (with_reducible repeat (first | refine blk_drewN ?_ _ | refine blk_drew ?_ | refine blk_alloc ?_ _)); refine blk_put (cs := #[.int .i64 t160, .int .i64 t161, .slice Ao17 t162.length co17, .int .i64 0, .slice none 0 0]) ?_ 3 _ rfl; (with_reducible repeat (first | refine blk_drewN ?_ _ | refine blk_drew ?_ | refine blk_alloc ?_ _)); refine blk_put (cs := #[.int .i64 t160, .int .i64 t161, .slice none 0 0, .int .i64 0, .slice none 0 0]) ?_ 2 _ rfl; (with_reducible repeat (first | refine blk_drewN ?_ _ | refine blk_drew ?_ | refine blk_alloc ?_ _)); refine blk_put (cs := #[.int .i64 t160, .int .i64 0, .slice none 0 0, .int .i64 0, .slice none 0 0]) ?_ 1 _ rfl; (with_reducible repeat (first | refine blk_drewN ?_ _ | refine blk_drew ?_ | refine blk_alloc ?_ _)); refine blk_put (cs := #[.int .i64 0, .int .i64 0, .slice none 0 0, .int .i64 0, .slice none 0 0]) ?_ 0 _ rfl; (with_reducible repeat (first | refine blk_drewN ?_ _ | refine blk_drew ?_ | refine blk_alloc ?_ _)); exact BK169.out⟩, ⟨by repeat (first | (with_reducible first | exact HB.out | apply below_alloc | apply pw_below_drewN | apply below_drew1 | refine below_set ?_ GE157.out | refine below_set ?_ GE158.out | refine below_set ?_ GE159.out | refine below_set ?_ GE169.out) | exact HB.out)⟩⟩
      · rw [if_neg c24] at H
        have c24b0 : decide (60 < (a1_2.size : Int)) = false := decide_eq_false c24
        have c24b1 : decide (60 < a1_2.size) = false := decide_eq_false (by omega)
        clear c24
        replace H := Option.bind_eq_some_iff.mp H
        obtain ⟨t170, A290, H⟩ := H
        replace H : (impl_Receive.j0 k (!t170) a0_0 a0_1 l0_2 a0_3 l0_4 a1_0 a1_1 a1_2 t160 t161 t162 t165 t166) = some (r1, r2, r3, r4, r5, r6) := H
        have A29 := Aside0.mk A290
        clear A290
        have H' := Aside0.mk H
        clear H
        have hnb30 := NB158_157.out
        have hnc30 := NB157_158.out
        have hnb31 := NB158_159.out
        have hnc31 := NB159_158.out
        have hnb32 := NB158_169.out
        have hnc32 := NB169_158.out
        have hcz33_0 : w12.cell? ⟨gb158, 0, none⟩ = some (.int .i64 a1_0) := (blk_cell BK158.out 0).trans rfl
        have hcz33_1 : w12.cell? ⟨gb158, 1, none⟩ = some (.int .i64 a1_1) := (blk_cell BK158.out 1).trans rfl
        have hcz33_2 : w12.cell? ⟨gb158, 2, none⟩ = some (.string a1_2) := (blk_cell BK158.out 2).trans rfl
        have hfz33_0 := blk_frozen BK158.out 0
        have hfz33_1 := blk_frozen BK158.out 1
        have hfz33_2 := blk_frozen BK158.out 2
        have hnb34 := NB157_159.out
        have hnc34 := NB159_157.out
        have hnb35 := NB157_169.out
        have hnc35 := NB169_157.out
        have hcz36_0 : w12.cell? ⟨gb157, 0, none⟩ = some (.int .i64 a0_0) := (blk_cell BK157.out 0).trans rfl
        have hcz36_1 : w12.cell? ⟨gb157, 1, none⟩ = some (.int .i64 a0_1) := (blk_cell BK157.out 1).trans rfl
        have hcz36_2 : w12.cell? ⟨gb157, 2, none⟩ = some (.slice A0_2 l0_2.length c0_2) := (blk_cell BK157.out 2).trans rfl
        have hcz36_3 : w12.cell? ⟨gb157, 3, none⟩ = some (.int .i64 a0_3) := (blk_cell BK157.out 3).trans rfl
        have hcz36_4 : w12.cell? ⟨gb157, 4, none⟩ = some (.slice A0_4 l0_4.length c0_4) := (blk_cell BK157.out 4).trans rfl
        have hfz36_0 := blk_frozen BK157.out 0
        have hfz36_1 := blk_frozen BK157.out 1
        have hfz36_2 := blk_frozen BK157.out 2
        have hfz36_3 := blk_frozen BK157.out 3
        have hfz36_4 := blk_frozen BK157.out 4
        go_wp2_with (first | (go_at_call 23; (with_reducible refine (impl_EndOk.calls k a0_0 a0_1 _ _ l0_2 a0_3 _ _ l0_4 t170 _ ?side1 ?side2 ?side3 ?side4 A29.out).mono ?_); (case side1 => exact Kd.C_below HR0_2.out (by repeat (first | (with_reducible first | exact HB.out | apply below_alloc | apply pw_below_drewN | apply below_drew1 | refine below_set ?_ GE157.out | refine below_set ?_ GE158.out | refine below_set ?_ GE159.out | refine below_set ?_ GE169.out) | exact HB.out))); (case side2 => exact HC0_2.out); (case side3 => exact Kd.C_below HR0_4.out (by repeat (first | (with_reducible first | exact HB.out | apply below_alloc | apply pw_below_drewN | apply below_drew1 | refine below_set ?_ GE157.out | refine below_set ?_ GE158.out | refine below_set ?_ GE159.out | refine below_set ?_ GE169.out) | exact HB.out))); (case side4 => exact HC0_4.out); rintro e w37 ⟨rfl, hb⟩; have n0_ := Aside0.mk (Kd.R_below (by (with_reducible repeat (first | apply Kd.R_alloc | apply Kd.R_drewN | apply Kd.R_drew)); exact (Kd.R_mono (Kd.R_far (p := ⟨gb169, 4, none⟩) (Kd.R_far (p := ⟨gb169, 3, none⟩) (Kd.R_far (p := ⟨gb169, 2, none⟩) (Kd.R_far (p := ⟨gb169, 1, none⟩) (Kd.R_far (p := ⟨gb169, 0, none⟩) (Kd.R_types HO164.out BK169.out (by decide)) (fun _ hk => hk.2) (.int .i64 t160)) (fun _ hk => hk.2) (.int .i64 t161)) (fun _ hk => hk.2) (.slice Ao17 t162.length co17)) (fun _ hk => hk.2) (.int .i64 t165)) (fun _ hk => hk.2) (.slice Ao18 t166.length co18)) (fun _ h_ => h_.1))) hb); have n1_ := Aside0.mk (Kd.R_below (by (with_reducible repeat (first | apply Kd.R_alloc | apply Kd.R_drewN | apply Kd.R_drew)); exact (Kd.R_mono (Kd.R_far (p := ⟨gb169, 4, none⟩) (Kd.R_far (p := ⟨gb169, 3, none⟩) (Kd.R_far (p := ⟨gb169, 2, none⟩) (Kd.R_far (p := ⟨gb169, 1, none⟩) (Kd.R_far (p := ⟨gb169, 0, none⟩) (Kd.R_types HO168.out BK169.out (by decide)) (fun _ hk => hk.2) (.int .i64 t160)) (fun _ hk => hk.2) (.int .i64 t161)) (fun _ hk => hk.2) (.slice Ao17 t162.length co17)) (fun _ hk => hk.2) (.int .i64 t165)) (fun _ hk => hk.2) (.slice Ao18 t166.length co18)) (fun _ h_ => h_.1))) hb); have n2_ := Aside0.mk (blk_below (g := gb157) (o := .cells #[.int .i64 a0_0, .int .i64 a0_1, .slice A0_2 l0_2.length c0_2, .int .i64 a0_3, .slice A0_4 l0_4.length c0_4] 26 (0, 0)) (by (with_reducible repeat (first | refine blk_drewN ?_ _ | refine blk_drew ?_ | refine blk_alloc ?_ _)); refine blk_far ?_ NB157_169.out _; (with_reducible repeat (first | refine blk_drewN ?_ _ | refine blk_drew ?_ | refine blk_alloc ?_ _)); refine blk_far ?_ NB157_169.out _; (with_reducible repeat (first | refine blk_drewN ?_ _ | refine blk_drew ?_ | refine blk_alloc ?_ _)); refine blk_far ?_ NB157_169.out _; (with_reducible repeat (first | refine blk_drewN ?_ _ | refine blk_drew ?_ | refine blk_alloc ?_ _)); refine blk_far ?_ NB157_169.out _; (with_reducible repeat (first | refine blk_drewN ?_ _ | refine blk_drew ?_ | refine blk_alloc ?_ _)); refine blk_far ?_ NB157_169.out _; (with_reducible repeat (first | refine blk_drewN ?_ _ | refine blk_drew ?_ | refine blk_alloc ?_ _)); exact BK157.out) hb); have n3_ := Aside0.mk (blk_below (g := gb158) (o := .cells #[.int .i64 a1_0, .int .i64 a1_1, .string a1_2] 36 (0, 0)) (by (with_reducible repeat (first | refine blk_drewN ?_ _ | refine blk_drew ?_ | refine blk_alloc ?_ _)); refine blk_far ?_ NB158_169.out _; (with_reducible repeat (first | refine blk_drewN ?_ _ | refine blk_drew ?_ | refine blk_alloc ?_ _)); refine blk_far ?_ NB158_169.out _; (with_reducible repeat (first | refine blk_drewN ?_ _ | refine blk_drew ?_ | refine blk_alloc ?_ _)); refine blk_far ?_ NB158_169.out _; (with_reducible repeat (first | refine blk_drewN ?_ _ | refine blk_drew ?_ | refine blk_alloc ?_ _)); refine blk_far ?_ NB158_169.out _; (with_reducible repeat (first | refine blk_drewN ?_ _ | refine blk_drew ?_ | refine blk_alloc ?_ _)); refine blk_far ?_ NB158_169.out _; (with_reducible repeat (first | refine blk_drewN ?_ _ | refine blk_drew ?_ | refine blk_alloc ?_ _)); exact BK158.out) hb); have n4_ := Aside0.mk (blk_below (g := gb159) (o := .cells #[.int .i64 0, .int .i64 0, .slice none 0 0, .int .i64 0, .slice none 0 0] 26 (0, 0)) (by (with_reducible repeat (first | refine blk_drewN ?_ _ | refine blk_drew ?_ | refine blk_alloc ?_ _)); refine blk_far ?_ NB159_169.out _; (with_reducible repeat (first | refine blk_drewN ?_ _ | refine blk_drew ?_ | refine blk_alloc ?_ _)); refine blk_far ?_ NB159_169.out _; (with_reducible repeat (first | refine blk_drewN ?_ _ | refine blk_drew ?_ | refine blk_alloc ?_ _)); refine blk_far ?_ NB159_169.out _; (with_reducible repeat (first | refine blk_drewN ?_ _ | refine blk_drew ?_ | refine blk_alloc ?_ _)); refine blk_far ?_ NB159_169.out _; (with_reducible repeat (first | refine blk_drewN ?_ _ | refine blk_drew ?_ | refine blk_alloc ?_ _)); refine blk_far ?_ NB159_169.out _; (with_reducible repeat (first | refine blk_drewN ?_ _ | refine blk_drew ?_ | refine blk_alloc ?_ _)); exact BK159.out) hb); have n5_ := Aside0.mk (blk_below (g := gb169) (o := .cells #[.int .i64 t160, .int .i64 t161, .slice Ao17 t162.length co17, .int .i64 t165, .slice Ao18 t166.length co18] 26 (0, 0)) (by (with_reducible repeat (first | refine blk_drewN ?_ _ | refine blk_drew ?_ | refine blk_alloc ?_ _)); refine blk_put (cs := #[.int .i64 t160, .int .i64 t161, .slice Ao17 t162.length co17, .int .i64 t165, .slice none 0 0]) ?_ 4 _ rfl; (with_reducible repeat (first | refine blk_drewN ?_ _ | refine blk_drew ?_ | refine blk_alloc ?_ _)); refine blk_put (cs := #[.int .i64 t160, .int .i64 t161, .slice Ao17 t162.length co17, .int .i64 0, .slice none 0 0]) ?_ 3 _ rfl; (with_reducible repeat (first | refine blk_drewN ?_ _ | refine blk_drew ?_ | refine blk_alloc ?_ _)); refine blk_put (cs := #[.int .i64 t160, .int .i64 t161, .slice none 0 0, .int .i64 0, .slice none 0 0]) ?_ 2 _ rfl; (with_reducible repeat (first | refine blk_drewN ?_ _ | refine blk_drew ?_ | refine blk_alloc ?_ _)); refine blk_put (cs := #[.int .i64 t160, .int .i64 0, .slice none 0 0, .int .i64 0, .slice none 0 0]) ?_ 1 _ rfl; (with_reducible repeat (first | refine blk_drewN ?_ _ | refine blk_drew ?_ | refine blk_alloc ?_ _)); refine blk_put (cs := #[.int .i64 0, .int .i64 0, .slice none 0 0, .int .i64 0, .slice none 0 0]) ?_ 0 _ rfl; (with_reducible repeat (first | refine blk_drewN ?_ _ | refine blk_drew ?_ | refine blk_alloc ?_ _)); exact BK169.out) hb); have n6_ := Aside0.mk (below_step (by repeat (first | (with_reducible first | exact HB.out | apply below_alloc | apply pw_below_drewN | apply below_drew1 | refine below_set ?_ GE157.out | refine below_set ?_ GE158.out | refine below_set ?_ GE159.out | refine below_set ?_ GE169.out) | exact HB.out)) hb); clear HO164; clear HO168; clear BK157; clear BK158; clear BK159; clear BK169; clear HB; have HO164 := n0_; have HO168 := n1_; have BK157 := n2_; have BK158 := n3_; have BK159 := n4_; have BK169 := n5_; have HB := n6_; clear n0_ n1_ n2_ n3_ n4_ n5_ n6_; (try clear hb); (try clear hb2); (try clear hk); (try clear hi)))
        go_meet
        case rel => exact ⟨_, (!t170), (by first | rfl | (simp; done) | (simp [*]; done)), H', ⟨by first | omega | exact Nat.le_refl _⟩, ⟨Kd.Q_of_R (by (with_reducible repeat (first | apply Kd.R_alloc | apply Kd.R_drewN | apply Kd.R_drew)); exact HO164.out)⟩, ⟨by (with_reducible repeat (first | apply Kd.R_alloc | apply Kd.R_drewN | apply Kd.R_drew)); exact HO168.out⟩, ⟨by (with_reducible repeat (first | refine blk_drewN ?_ _ | refine blk_drew ?_ | refine blk_alloc ?_ _)); exact BK157.out⟩, ⟨by (with_reducible repeat (first | refine blk_drewN ?_ _ | refine blk_drew ?_ | refine blk_alloc ?_ _)); exact BK158.out⟩, ⟨by (with_reducible repeat (first | refine blk_drewN ?_ _ | refine blk_drew ?_ | refine blk_alloc ?_ _)); exact BK159.out⟩, ⟨by (with_reducible repeat (first | refine blk_drewN ?_ _ | refine blk_drew ?_ | refine blk_alloc ?_ _)); exact BK169.out⟩, ⟨by repeat (first | (with_reducible first | exact HB.out | apply below_alloc | apply pw_below_drewN | apply below_drew1 | refine below_set ?_ GE157.out | refine below_set ?_ GE158.out | refine below_set ?_ GE159.out | refine below_set ?_ GE169.out) | exact HB.out)⟩⟩
  case rest =>
    clear HC4
    try clear c1
    try clear c2
    try clear p2
    try clear c3
    try clear c4
    try clear c8
    try clear c9
    try clear c13
    try clear c14
    try clear c15
    try clear c19
    try clear c19b0
    try clear c20
    try clear c21
    try clear c22
    try clear c24
    try clear c24b0
    try clear c24b1
    try clear c25
    try clear c26
    try clear c27
    try clear c30
    try clear c31
    try clear c32
    try clear c34
    try clear c35
    try clear hcz10_0
    try clear hcz10_1
    try clear hcz10_2
    try clear hcz10_3
    try clear hcz10_4
    try clear hcz16_0
    try clear hcz16_1
    try clear hcz16_2
    try clear hcz16_3
    try clear hcz16_4
    try clear hcz23_0
    try clear hcz23_1
    try clear hcz23_2
    try clear hcz28_0
    try clear hcz28_1
    try clear hcz28_2
    try clear hcz33_0
    try clear hcz33_1
    try clear hcz33_2
    try clear hcz36_0
    try clear hcz36_1
    try clear hcz36_2
    try clear hcz36_3
    try clear hcz36_4
    try clear hfz10_0
    try clear hfz10_1
    try clear hfz10_2
    try clear hfz10_3
    try clear hfz10_4
    try clear hfz16_0
    try clear hfz16_1
    try clear hfz16_2
    try clear hfz16_3
    try clear hfz16_4
    try clear hfz23_0
    try clear hfz23_1
    try clear hfz23_2
    try clear hfz28_0
    try clear hfz28_1
    try clear hfz28_2
    try clear hfz33_0
    try clear hfz33_1
    try clear hfz33_2
    try clear hfz36_0
    try clear hfz36_1
    try clear hfz36_2
    try clear hfz36_3
    try clear hfz36_4
    obtain ⟨kq, x22_3, rfl, HA, HJ3, HO_170002, HO_170004, BK157, BK158, BK159, BK169, HB⟩ := hcut
    cases kq with
    | zero => exact absurd HA.out (by simp [impl_Receive.j0])
    | succ kj3 =>
      have H := HA.out
      clear HA
      simp only [impl_Receive.j0] at H
      by_cases c38 : x22_3 = true
      · subst c38
        have H1 : (some (t160, t161, t162, t165, t166, false)) = some (r1, r2, r3, r4, r5, r6) := by rw [if_pos rfl] at H; exact H
        clear H
        have H := H1
        clear H1
        simp only [Option.some.injEq, Prod.mk.injEq] at H
        obtain ⟨rfl, rfl, rfl, rfl, rfl, rfl⟩ := H
        have hnb39 := NB169_157.out
        have hnc39 := NB157_169.out
        have hnb40 := NB169_158.out
        have hnc40 := NB158_169.out
        have hnb41 := NB169_159.out
        have hnc41 := NB159_169.out
        have hcz42_0 : wc.cell? ⟨gb169, 0, none⟩ = some (.int .i64 t160) := (blk_cell BK169.out 0).trans rfl
        have hcz42_1 : wc.cell? ⟨gb169, 1, none⟩ = some (.int .i64 t161) := (blk_cell BK169.out 1).trans rfl
        have hcz42_2 : wc.cell? ⟨gb169, 2, none⟩ = some (.slice Ao17 t162.length co17) := (blk_cell BK169.out 2).trans rfl
        have hcz42_3 : wc.cell? ⟨gb169, 3, none⟩ = some (.int .i64 t165) := (blk_cell BK169.out 3).trans rfl
        have hcz42_4 : wc.cell? ⟨gb169, 4, none⟩ = some (.slice Ao18 t166.length co18) := (blk_cell BK169.out 4).trans rfl
        have hfz42_0 := blk_frozen BK169.out 0
        have hfz42_1 := blk_frozen BK169.out 1
        have hfz42_2 := blk_frozen BK169.out 2
        have hfz42_3 := blk_frozen BK169.out 3
        have hfz42_4 := blk_frozen BK169.out 4
        have hnb43 := NB159_157.out
        have hnc43 := NB157_159.out
        have hnb44 := NB159_158.out
        have hnc44 := NB158_159.out
        have hcz45_0 : wc.cell? ⟨gb159, 0, none⟩ = some (.int .i64 0) := (blk_cell BK159.out 0).trans rfl
        have hcz45_1 : wc.cell? ⟨gb159, 1, none⟩ = some (.int .i64 0) := (blk_cell BK159.out 1).trans rfl
        have hcz45_2 : wc.cell? ⟨gb159, 2, none⟩ = some (.slice none 0 0) := (blk_cell BK159.out 2).trans rfl
        have hcz45_3 : wc.cell? ⟨gb159, 3, none⟩ = some (.int .i64 0) := (blk_cell BK159.out 3).trans rfl
        have hcz45_4 : wc.cell? ⟨gb159, 4, none⟩ = some (.slice none 0 0) := (blk_cell BK159.out 4).trans rfl
        have hfz45_0 := blk_frozen BK159.out 0
        have hfz45_1 := blk_frozen BK159.out 1
        have hfz45_2 := blk_frozen BK159.out 2
        have hfz45_3 := blk_frozen BK159.out 3
        have hfz45_4 := blk_frozen BK159.out 4
        go_wp2
        refine bodyPost_ret (results_ct rfl _ _ gb159 26 #[.int .i64 t160, .int .i64 t161, .slice Ao17 t162.length co17, .int .i64 t165, .slice Ao18 t166.length co18] (0, 0) _ rfl (by (with_reducible repeat (first | refine blk_drewN ?_ _ | refine blk_drew ?_ | refine blk_alloc ?_ _)); refine blk_put (cs := #[.int .i64 t160, .int .i64 t161, .slice Ao17 t162.length co17, .int .i64 t165, .slice none 0 0]) ?_ 4 _ rfl; (with_reducible repeat (first | refine blk_drewN ?_ _ | refine blk_drew ?_ | refine blk_alloc ?_ _)); refine blk_put (cs := #[.int .i64 t160, .int .i64 t161, .slice Ao17 t162.length co17, .int .i64 0, .slice none 0 0]) ?_ 3 _ rfl; (with_reducible repeat (first | refine blk_drewN ?_ _ | refine blk_drew ?_ | refine blk_alloc ?_ _)); refine blk_put (cs := #[.int .i64 t160, .int .i64 t161, .slice none 0 0, .int .i64 0, .slice none 0 0]) ?_ 2 _ rfl; (with_reducible repeat (first | refine blk_drewN ?_ _ | refine blk_drew ?_ | refine blk_alloc ?_ _)); refine blk_put (cs := #[.int .i64 t160, .int .i64 0, .slice none 0 0, .int .i64 0, .slice none 0 0]) ?_ 1 _ rfl; (with_reducible repeat (first | refine blk_drewN ?_ _ | refine blk_drew ?_ | refine blk_alloc ?_ _)); refine blk_put (cs := #[.int .i64 0, .int .i64 0, .slice none 0 0, .int .i64 0, .slice none 0 0]) ?_ 0 _ rfl; (with_reducible repeat (first | refine blk_drewN ?_ _ | refine blk_drew ?_ | refine blk_alloc ?_ _)); exact BK159.out) Try.underlying26 rfl (by kernel_rfl)) rfl ?_
        exact ⟨_, _, by first | rfl | (simp [errW_none, errW_some] <;> rfl) | (simp [*, errW_none, errW_some] <;> rfl), by (with_reducible repeat (first | apply Kd.Q_alloc | apply Kd.Q_drewN | apply Kd.Q_drew)); exact Kd.Q_mono (Kd.Q_far (p := ⟨gb159, 4, none⟩) (Kd.Q_far (p := ⟨gb159, 3, none⟩) (Kd.Q_far (p := ⟨gb159, 2, none⟩) (Kd.Q_far (p := ⟨gb159, 1, none⟩) (Kd.Q_far (p := ⟨gb159, 0, none⟩) (Kd.Q_types HO_170002.out BK159.out (by decide)) (fun _ hk => hk.2) (.int .i64 t160)) (fun _ hk => hk.2) (.int .i64 t161)) (fun _ hk => hk.2) (.slice Ao17 t162.length co17)) (fun _ hk => hk.2) (.int .i64 t165)) (fun _ hk => hk.2) (.slice Ao18 t166.length co18)) (fun _ hk => hk.1), by (with_reducible repeat (first | apply Kd.R_alloc | apply Kd.R_drewN | apply Kd.R_drew)); exact Kd.R_mono (Kd.R_far (p := ⟨gb159, 4, none⟩) (Kd.R_far (p := ⟨gb159, 3, none⟩) (Kd.R_far (p := ⟨gb159, 2, none⟩) (Kd.R_far (p := ⟨gb159, 1, none⟩) (Kd.R_far (p := ⟨gb159, 0, none⟩) (Kd.R_types HO_170004.out BK159.out (by decide)) (fun _ hk => hk.2) (.int .i64 t160)) (fun _ hk => hk.2) (.int .i64 t161)) (fun _ hk => hk.2) (.slice Ao17 t162.length co17)) (fun _ hk => hk.2) (.int .i64 t165)) (fun _ hk => hk.2) (.slice Ao18 t166.length co18)) (fun _ hk => hk.1), by repeat (first | (with_reducible first | exact HB.out | apply below_alloc | apply pw_below_drewN | apply below_drew1 | refine below_set ?_ GE157.out | refine below_set ?_ GE158.out | refine below_set ?_ GE159.out | refine below_set ?_ GE169.out) | exact HB.out)⟩
      · replace c38 := Bool.eq_false_iff.mpr c38
        subst c38
        have H1 : (if a1_1 > a0_1 then (impl_Receive.j1 kj3 (decide (a1_1 ≤ a0_0)) a0_0 a0_1 l0_2 a0_3 l0_4 a1_0 a1_1 a1_2 t160 t161 t162 t165 t166) else (impl_Receive.j1 kj3 false a0_0 a0_1 l0_2 a0_3 l0_4 a1_0 a1_1 a1_2 t160 t161 t162 t165 t166)) = some (r1, r2, r3, r4, r5, r6) := by rw [if_neg (show ¬ (false = true) by decide)] at H; exact H
        clear H
        have H := H1
        clear H1
        have HC46 := Aside0.mk H
        clear H
        go_upto_region 4 with (fail)
        go_cut [35] (fun v35 wc => ∃ (kq : Nat) (x35_45 : Bool), v35 = .bool x35_45 ∧ Aside0 (impl_Receive.j1 kq x35_45 a0_0 a0_1 l0_2 a0_3 l0_4 a1_0 a1_1 a1_2 t160 t161 t162 t165 t166 = some (r1, r2, r3, r4, r5, r6)) ∧ Aside0 (kq ≤ kj3) ∧ Aside0 (Kd.Q Kd.string 9 wc w.heap.size (fun k_ => some k_ ≠ ((.slice Ao18 t166.length co18) : Value).ownBlock) (.slice Ao17 t162.length co17) t162) ∧ Aside0 (Kd.R Kd.string 9 wc w.heap.size (fun k_ => some k_ ≠ ((.slice Ao17 t162.length co17) : Value).ownBlock) (.slice Ao18 t166.length co18) t166) ∧ Aside0 (wc.heap[gb157]? = some (.cells #[.int .i64 a0_0, .int .i64 a0_1, (.slice A0_2 l0_2.length c0_2), .int .i64 a0_3, (.slice A0_4 l0_4.length c0_4)] 26 (0, 0))) ∧ Aside0 (wc.heap[gb158]? = some (.cells #[.int .i64 a1_0, .int .i64 a1_1, .string a1_2] 36 (0, 0))) ∧ Aside0 (wc.heap[gb159]? = some (.cells #[.int .i64 0, .int .i64 0, (.slice none 0 0), .int .i64 0, (.slice none 0 0)] 26 (0, 0))) ∧ Aside0 (wc.heap[gb169]? = some (.cells #[.int .i64 t160, .int .i64 t161, (.slice Ao17 t162.length co17), .int .i64 t165, (.slice Ao18 t166.length co18)] 26 (0, 0))) ∧ Aside0 (Below w.heap.size w wc))
        case first =>
          have H := HC46.out
          clear HC46
          by_cases c47 : a1_1 > a0_1
          · rw [if_pos c47] at H
            have c47b0 : decide (a0_1 < a1_1) = true := decide_eq_true c47
            clear c47
            (first | rw [c47b0] | (simp only [i64_w, i32_w]; rw [c47b0]) | skip)
            have H' := Aside0.mk H
            clear H
            have hnb48 := NB158_157.out
            have hnc48 := NB157_158.out
            have hnb49 := NB158_159.out
            have hnc49 := NB159_158.out
            have hnb50 := NB158_169.out
            have hnc50 := NB169_158.out
            have hcz51_0 : wc.cell? ⟨gb158, 0, none⟩ = some (.int .i64 a1_0) := (blk_cell BK158.out 0).trans rfl
            have hcz51_1 : wc.cell? ⟨gb158, 1, none⟩ = some (.int .i64 a1_1) := (blk_cell BK158.out 1).trans rfl
            have hcz51_2 : wc.cell? ⟨gb158, 2, none⟩ = some (.string a1_2) := (blk_cell BK158.out 2).trans rfl
            have hfz51_0 := blk_frozen BK158.out 0
            have hfz51_1 := blk_frozen BK158.out 1
            have hfz51_2 := blk_frozen BK158.out 2
            have hnb52 := NB157_159.out
            have hnc52 := NB159_157.out
            have hnb53 := NB157_169.out
            have hnc53 := NB169_157.out
            have hcz54_0 : wc.cell? ⟨gb157, 0, none⟩ = some (.int .i64 a0_0) := (blk_cell BK157.out 0).trans rfl
            have hcz54_1 : wc.cell? ⟨gb157, 1, none⟩ = some (.int .i64 a0_1) := (blk_cell BK157.out 1).trans rfl
            have hcz54_2 : wc.cell? ⟨gb157, 2, none⟩ = some (.slice A0_2 l0_2.length c0_2) := (blk_cell BK157.out 2).trans rfl
            have hcz54_3 : wc.cell? ⟨gb157, 3, none⟩ = some (.int .i64 a0_3) := (blk_cell BK157.out 3).trans rfl
            have hcz54_4 : wc.cell? ⟨gb157, 4, none⟩ = some (.slice A0_4 l0_4.length c0_4) := (blk_cell BK157.out 4).trans rfl
            have hfz54_0 := blk_frozen BK157.out 0
            have hfz54_1 := blk_frozen BK157.out 1
            have hfz54_2 := blk_frozen BK157.out 2
            have hfz54_3 := blk_frozen BK157.out 3
            have hfz54_4 := blk_frozen BK157.out 4
            go_wp2
            go_meet
            case rel => exact ⟨_, (decide (a1_1 ≤ a0_0)), (by first | rfl | (simp; done) | (simp [*]; done)), H', ⟨by have := HJ3.out; first | omega | exact Nat.le_refl _⟩, ⟨by (with_reducible repeat (first | apply Kd.Q_alloc | apply Kd.Q_drewN | apply Kd.Q_drew)); exact HO_170002.out⟩, ⟨by (with_reducible repeat (first | apply Kd.R_alloc | apply Kd.R_drewN | apply Kd.R_drew)); exact HO_170004.out⟩, ⟨by (with_reducible repeat (first | refine blk_drewN ?_ _ | refine blk_drew ?_ | refine blk_alloc ?_ _)); exact BK157.out⟩, ⟨by (with_reducible repeat (first | refine blk_drewN ?_ _ | refine blk_drew ?_ | refine blk_alloc ?_ _)); exact BK158.out⟩, ⟨by (with_reducible repeat (first | refine blk_drewN ?_ _ | refine blk_drew ?_ | refine blk_alloc ?_ _)); exact BK159.out⟩, ⟨by (with_reducible repeat (first | refine blk_drewN ?_ _ | refine blk_drew ?_ | refine blk_alloc ?_ _)); exact BK169.out⟩, ⟨by repeat (first | (with_reducible first | exact HB.out | apply below_alloc | apply pw_below_drewN | apply below_drew1 | refine below_set ?_ GE157.out | refine below_set ?_ GE158.out | refine below_set ?_ GE159.out | refine below_set ?_ GE169.out) | exact HB.out)⟩⟩
          · rw [if_neg c47] at H
            have c47b0 : decide (a0_1 < a1_1) = false := decide_eq_false c47
            clear c47
            (first | rw [c47b0] | (simp only [i64_w, i32_w]; rw [c47b0]) | skip)
            have H' := Aside0.mk H
            clear H
            have hnb55 := NB158_157.out
            have hnc55 := NB157_158.out
            have hnb56 := NB158_159.out
            have hnc56 := NB159_158.out
            have hnb57 := NB158_169.out
            have hnc57 := NB169_158.out
            have hcz58_0 : wc.cell? ⟨gb158, 0, none⟩ = some (.int .i64 a1_0) := (blk_cell BK158.out 0).trans rfl
            have hcz58_1 : wc.cell? ⟨gb158, 1, none⟩ = some (.int .i64 a1_1) := (blk_cell BK158.out 1).trans rfl
            have hcz58_2 : wc.cell? ⟨gb158, 2, none⟩ = some (.string a1_2) := (blk_cell BK158.out 2).trans rfl
            have hfz58_0 := blk_frozen BK158.out 0
            have hfz58_1 := blk_frozen BK158.out 1
            have hfz58_2 := blk_frozen BK158.out 2
            have hnb59 := NB157_159.out
            have hnc59 := NB159_157.out
            have hnb60 := NB157_169.out
            have hnc60 := NB169_157.out
            have hcz61_0 : wc.cell? ⟨gb157, 0, none⟩ = some (.int .i64 a0_0) := (blk_cell BK157.out 0).trans rfl
            have hcz61_1 : wc.cell? ⟨gb157, 1, none⟩ = some (.int .i64 a0_1) := (blk_cell BK157.out 1).trans rfl
            have hcz61_2 : wc.cell? ⟨gb157, 2, none⟩ = some (.slice A0_2 l0_2.length c0_2) := (blk_cell BK157.out 2).trans rfl
            have hcz61_3 : wc.cell? ⟨gb157, 3, none⟩ = some (.int .i64 a0_3) := (blk_cell BK157.out 3).trans rfl
            have hcz61_4 : wc.cell? ⟨gb157, 4, none⟩ = some (.slice A0_4 l0_4.length c0_4) := (blk_cell BK157.out 4).trans rfl
            have hfz61_0 := blk_frozen BK157.out 0
            have hfz61_1 := blk_frozen BK157.out 1
            have hfz61_2 := blk_frozen BK157.out 2
            have hfz61_3 := blk_frozen BK157.out 3
            have hfz61_4 := blk_frozen BK157.out 4
            go_wp2
            go_meet
            case rel => exact ⟨_, (false), (by first | rfl | (simp; done) | (simp [*]; done)), H', ⟨by have := HJ3.out; first | omega | exact Nat.le_refl _⟩, ⟨by (with_reducible repeat (first | apply Kd.Q_alloc | apply Kd.Q_drewN | apply Kd.Q_drew)); exact HO_170002.out⟩, ⟨by (with_reducible repeat (first | apply Kd.R_alloc | apply Kd.R_drewN | apply Kd.R_drew)); exact HO_170004.out⟩, ⟨by (with_reducible repeat (first | refine blk_drewN ?_ _ | refine blk_drew ?_ | refine blk_alloc ?_ _)); exact BK157.out⟩, ⟨by (with_reducible repeat (first | refine blk_drewN ?_ _ | refine blk_drew ?_ | refine blk_alloc ?_ _)); exact BK158.out⟩, ⟨by (with_reducible repeat (first | refine blk_drewN ?_ _ | refine blk_drew ?_ | refine blk_alloc ?_ _)); exact BK159.out⟩, ⟨by (with_reducible repeat (first | refine blk_drewN ?_ _ | refine blk_drew ?_ | refine blk_alloc ?_ _)); exact BK169.out⟩, ⟨by repeat (first | (with_reducible first | exact HB.out | apply below_alloc | apply pw_below_drewN | apply below_drew1 | refine below_set ?_ GE157.out | refine below_set ?_ GE158.out | refine below_set ?_ GE159.out | refine below_set ?_ GE169.out) | exact HB.out)⟩⟩
        case rest =>
          clear HC46
          try clear c1
          try clear c2
          try clear p2
          try clear c3
          try clear c4
          try clear c5
          try clear c6
          try clear c8
          try clear c9
          try clear c13
          try clear c14
          try clear c15
          try clear c19
          try clear c19b0
          try clear c20
          try clear c21
          try clear c22
          try clear c24
          try clear c24b0
          try clear c24b1
          try clear c25
          try clear c26
          try clear c27
          try clear c30
          try clear c31
          try clear c32
          try clear c34
          try clear c35
          try clear c38
          try clear c39
          try clear c40
          try clear c41
          try clear c43
          try clear c44
          try clear c46
          try clear c47
          try clear c47b0
          try clear c48
          try clear c49
          try clear c50
          try clear c52
          try clear c53
          try clear c55
          try clear c56
          try clear c57
          try clear c59
          try clear c60
          try clear hcz10_0
          try clear hcz10_1
          try clear hcz10_2
          try clear hcz10_3
          try clear hcz10_4
          try clear hcz16_0
          try clear hcz16_1
          try clear hcz16_2
          try clear hcz16_3
          try clear hcz16_4
          try clear hcz23_0
          try clear hcz23_1
          try clear hcz23_2
          try clear hcz28_0
          try clear hcz28_1
          try clear hcz28_2
          try clear hcz33_0
          try clear hcz33_1
          try clear hcz33_2
          try clear hcz36_0
          try clear hcz36_1
          try clear hcz36_2
          try clear hcz36_3
          try clear hcz36_4
          try clear hcz42_0
          try clear hcz42_1
          try clear hcz42_2
          try clear hcz42_3
          try clear hcz42_4
          try clear hcz45_0
          try clear hcz45_1
          try clear hcz45_2
          try clear hcz45_3
          try clear hcz45_4
          try clear hcz51_0
          try clear hcz51_1
          try clear hcz51_2
          try clear hcz54_0
          try clear hcz54_1
          try clear hcz54_2
          try clear hcz54_3
          try clear hcz54_4
          try clear hcz58_0
          try clear hcz58_1
          try clear hcz58_2
          try clear hcz61_0
          try clear hcz61_1
          try clear hcz61_2
          try clear hcz61_3
          try clear hcz61_4
          try clear hfz10_0
          try clear hfz10_1
          try clear hfz10_2
          try clear hfz10_3
          try clear hfz10_4
          try clear hfz16_0
          try clear hfz16_1
          try clear hfz16_2
          try clear hfz16_3
          try clear hfz16_4
          try clear hfz23_0
          try clear hfz23_1
          try clear hfz23_2
          try clear hfz28_0
          try clear hfz28_1
          try clear hfz28_2
          try clear hfz33_0
          try clear hfz33_1
          try clear hfz33_2
          try clear hfz36_0
          try clear hfz36_1
          try clear hfz36_2
          try clear hfz36_3
          try clear hfz36_4
          try clear hfz42_0
          try clear hfz42_1
          try clear hfz42_2
          try clear hfz42_3
          try clear hfz42_4
          try clear hfz45_0
          try clear hfz45_1
          try clear hfz45_2
          try clear hfz45_3
          try clear hfz45_4
          try clear hfz51_0
          try clear hfz51_1
          try clear hfz51_2
          try clear hfz54_0
          try clear hfz54_1
          try clear hfz54_2
          try clear hfz54_3
          try clear hfz54_4
          try clear hfz58_0
          try clear hfz58_1
          try clear hfz58_2
          try clear hfz61_0
          try clear hfz61_1
          try clear hfz61_2
          try clear hfz61_3
          try clear hfz61_4
          try clear p2
          obtain ⟨kq, x35_45, rfl, HA, HJ45, HO_170002, HO_170004, BK157, BK158, BK159, BK169, HB⟩ := hcut
          cases kq with
          | zero => exact absurd HA.out (by simp [impl_Receive.j1])
          | succ kj45 =>
            have H := HA.out
            clear HA
            simp only [impl_Receive.j1] at H
            by_cases c62 : x35_45 = true
            · subst c62
              have H1 : (if 0 ≤ (wrap64 (a1_1 - a0_1)) then (if (wrap64 (a1_1 - a0_1)) ≤ (t162.length : Int) then ((some (t162.drop ((wrap64 (a1_1 - a0_1)) : Int).toNat : List ByteArray)).bind fun y171 => (if a1_0 = (wrap64 (a0_3 + 1)) then (if a0_3 ≥ 1000 then (some (t160, a1_1, y171, t165, t166, false)) else (if t166.length < 8796093022208 then (some (t160, a1_1, y171, wrap64 (t165 + 1), (t166 ++ [a1_2]), true)) else (none))) else (some (t160, a1_1, y171, t165, t166, false)))) else (none)) else (none)) = some (r1, r2, r3, r4, r5, r6) := by rw [if_pos rfl] at H; exact H
              clear H
              have H := H1
              clear H1
              obtain ⟨ji63, hji63⟩ : ∃ j_ : Int, (wrap64 (a1_1 - a0_1)) = j_ := ⟨_, rfl⟩
              replace H : (if 0 ≤ (ji63) then (if (ji63) ≤ (t162.length : Int) then ((some (t162.drop ((ji63) : Int).toNat : List ByteArray)).bind fun y171 => (if a1_0 = (wrap64 (a0_3 + 1)) then (if a0_3 ≥ 1000 then (some (t160, a1_1, y171, t165, t166, false)) else (if t166.length < 8796093022208 then (some (t160, a1_1, y171, wrap64 (t165 + 1), (t166 ++ [a1_2]), true)) else (none))) else (some (t160, a1_1, y171, t165, t166, false)))) else (none)) else (none)) = some (r1, r2, r3, r4, r5, r6) := by first | (rw [hji63] at H; exact H) | (simp only [hji63] at H ⊢; exact H)
              have hji63w : (IntKind.i64.wrap (a1_1 - a0_1)) = ji63 := (i64_w _).trans hji63
              by_cases c64 : 0 ≤ (ji63)
              · rw [if_pos c64] at H
                have c64b0 := eq_true c64
                have c64b1 : decide (0 ≤ (ji63)) = true := decide_eq_true c64
                clear c64
                by_cases c65 : (ji63) ≤ (t162.length : Int)
                · rw [if_pos c65] at H
                  have c65b0 := eq_true c65
                  have c65b1 : decide ((ji63) ≤ (t162.length : Int)) = true := decide_eq_true c65
                  clear c65
                  obtain ⟨y171, hy171⟩ : ∃ y_ : List ByteArray, y_ = (t162.drop ((ji63) : Int).toNat) := ⟨_, rfl⟩
                  replace H : (if a1_0 = (wrap64 (a0_3 + 1)) then (if a0_3 ≥ 1000 then (some (t160, a1_1, y171, t165, t166, false)) else (if t166.length < 8796093022208 then (some (t160, a1_1, y171, wrap64 (t165 + 1), (t166 ++ [a1_2]), true)) else (none))) else (some (t160, a1_1, y171, t165, t166, false))) = some (r1, r2, r3, r4, r5, r6) := by first | (rw [hy171]; with_reducible exact H) | (have H2_ := (Option.bind_some _ _).symm.trans H; rw [hy171]; with_reducible exact H2_) | (have H2_ := (Option.bind_some _ _).symm.trans H; with_reducible exact H2_) | with_reducible exact H | (rw [hy171]; exact H) | exact H
                  have Ny171 := Aside0.mk hy171
                  clear hy171
                  by_cases c66 : a1_0 = (wrap64 (a0_3 + 1))
                  · rw [if_pos c66] at H
                    have c66b0 : (a1_0 == (wrap64 (a0_3 + 1))) = true := beq_iff_eq.mpr c66
                    have c66b1 : (a1_0 != (wrap64 (a0_3 + 1))) = false := bne_eq_false_iff_eq.mpr c66
                    clear c66
                    by_cases c67 : a0_3 ≥ 1000
                    · rw [if_pos c67] at H
                      have c67b0 : decide (1000 ≤ a0_3) = true := decide_eq_true c67
                      clear c67
                      simp only [Option.some.injEq, Prod.mk.injEq] at H
                      obtain ⟨rfl, rfl, rfl, rfl, rfl, rfl⟩ := H
                      have hnb68 := NB169_157.out
                      have hnc68 := NB157_169.out
                      have hnb69 := NB169_158.out
                      have hnc69 := NB158_169.out
                      have hnb70 := NB169_159.out
                      have hnc70 := NB159_169.out
                      have hcz71_0 : wc.cell? ⟨gb169, 0, none⟩ = some (.int .i64 t160) := (blk_cell BK169.out 0).trans rfl
                      have hcz71_1 : wc.cell? ⟨gb169, 1, none⟩ = some (.int .i64 t161) := (blk_cell BK169.out 1).trans rfl
                      have hcz71_2 : wc.cell? ⟨gb169, 2, none⟩ = some (.slice Ao17 t162.length co17) := (blk_cell BK169.out 2).trans rfl
                      have hcz71_3 : wc.cell? ⟨gb169, 3, none⟩ = some (.int .i64 t165) := (blk_cell BK169.out 3).trans rfl
                      have hcz71_4 : wc.cell? ⟨gb169, 4, none⟩ = some (.slice Ao18 t166.length co18) := (blk_cell BK169.out 4).trans rfl
                      have hfz71_0 := blk_frozen BK169.out 0
                      have hfz71_1 := blk_frozen BK169.out 1
                      have hfz71_2 := blk_frozen BK169.out 2
                      have hfz71_3 := blk_frozen BK169.out 3
                      have hfz71_4 := blk_frozen BK169.out 4
                      have hnb72 := NB158_157.out
                      have hnc72 := NB157_158.out
                      have hnb73 := NB158_159.out
                      have hnc73 := NB159_158.out
                      have hcz74_0 : wc.cell? ⟨gb158, 0, none⟩ = some (.int .i64 a1_0) := (blk_cell BK158.out 0).trans rfl
                      have hcz74_1 : wc.cell? ⟨gb158, 1, none⟩ = some (.int .i64 a1_1) := (blk_cell BK158.out 1).trans rfl
                      have hcz74_2 : wc.cell? ⟨gb158, 2, none⟩ = some (.string a1_2) := (blk_cell BK158.out 2).trans rfl
                      have hfz74_0 := blk_frozen BK158.out 0
                      have hfz74_1 := blk_frozen BK158.out 1
                      have hfz74_2 := blk_frozen BK158.out 2
                      have hnb75 := NB157_159.out
                      have hnc75 := NB159_157.out
                      have hcz76_0 : wc.cell? ⟨gb157, 0, none⟩ = some (.int .i64 a0_0) := (blk_cell BK157.out 0).trans rfl
                      have hcz76_1 : wc.cell? ⟨gb157, 1, none⟩ = some (.int .i64 a0_1) := (blk_cell BK157.out 1).trans rfl
                      have hcz76_2 : wc.cell? ⟨gb157, 2, none⟩ = some (.slice A0_2 l0_2.length c0_2) := (blk_cell BK157.out 2).trans rfl
                      have hcz76_3 : wc.cell? ⟨gb157, 3, none⟩ = some (.int .i64 a0_3) := (blk_cell BK157.out 3).trans rfl
                      have hcz76_4 : wc.cell? ⟨gb157, 4, none⟩ = some (.slice A0_4 l0_4.length c0_4) := (blk_cell BK157.out 4).trans rfl
                      have hfz76_0 := blk_frozen BK157.out 0
                      have hfz76_1 := blk_frozen BK157.out 1
                      have hfz76_2 := blk_frozen BK157.out 2
                      have hfz76_3 := blk_frozen BK157.out 3
                      have hfz76_4 := blk_frozen BK157.out 4
                      have q77 : ((ji63) : Int) ≤ ((t162.length : Int) : Int) := of_decide_eq_true (by first | (with_reducible assumption) | assumption)
                      obtain ⟨i077, hi077, _, hsz77, _⟩ := info_parts info9
                      have hcut77 := cut_from (P := Try.prog) 22 9 .i64 Try.underlying22 hi077 1 hsz77 Ao17 t162.length co17 (ji63) (of_decide_eq_true (by first | (with_reducible assumption) | assumption)) q77
                      have hr77 := Kd.Q_drop (k := ((ji63) : Int).toNat) HO_170002.out (by omega)
                      obtain ⟨A77, hA77⟩ : ∃ A1, A1 = (if co17 = ((ji63) : Int).toNat then Ao17 else (Ao17 : Option Addr).map (·.add (((ji63) : Int).toNat * 1))) := ⟨_, rfl⟩
                      obtain ⟨c77, hc77⟩ : ∃ c1, c1 = co17 - ((ji63) : Int).toNat := ⟨_, rfl⟩
                      have hy77 : y171.length = t162.length - ((ji63) : Int).toNat := (by rw [Ny171.out, List.length_drop])
                      rw [← Ny171.out] at hr77
                      rw [← hy77, ← hA77, ← hc77] at hcut77
                      replace hr77 : Kd.Q Kd.string 9 wc w.heap.size (fun k_ => some k_ ≠ (.slice Ao18 t166.length co18 : Value).ownBlock) (.slice A77 y171.length c77) y171 := (by rw [hA77, hc77, hy77]; exact hr77)
                      have HE77 : Aside0 ((Value.slice A77 y171.length c77).ownBlock = (.slice Ao17 t162.length co17 : Value).ownBlock) := ⟨by rw [hA77]; split <;> (cases (Ao17 : Option Addr) <;> first | rfl | (simp only [Option.map_some, Value.ownBlock]; unfold Addr.add; split <;> rfl))⟩
                      clear hy77 hi077 hsz77 HO_170002 hA77 hc77
                      have HO173 := Aside0.mk hr77
                      clear hr77
                      replace q77 := eq_true q77
                      have n_ := Aside0.mk (Kd.R_mono (ok' := fun k_ => some k_ ≠ (.slice A77 y171.length c77 : Value).ownBlock) HO_170004.out (fun k_ hk => (by rw [HE77.out]; exact hk)))
                      clear HO_170004
                      have HO_170004 := n_
                      clear n_
                      have hcz78_0 : wc.cell? ⟨gb159, 0, none⟩ = some (.int .i64 0) := (blk_cell BK159.out 0).trans rfl
                      have hcz78_1 : wc.cell? ⟨gb159, 1, none⟩ = some (.int .i64 0) := (blk_cell BK159.out 1).trans rfl
                      have hcz78_2 : wc.cell? ⟨gb159, 2, none⟩ = some (.slice none 0 0) := (blk_cell BK159.out 2).trans rfl
                      have hcz78_3 : wc.cell? ⟨gb159, 3, none⟩ = some (.int .i64 0) := (blk_cell BK159.out 3).trans rfl
                      have hcz78_4 : wc.cell? ⟨gb159, 4, none⟩ = some (.slice none 0 0) := (blk_cell BK159.out 4).trans rfl
                      have hfz78_0 := blk_frozen BK159.out 0
                      have hfz78_1 := blk_frozen BK159.out 1
                      have hfz78_2 := blk_frozen BK159.out 2
                      have hfz78_3 := blk_frozen BK159.out 3
                      have hfz78_4 := blk_frozen BK159.out 4
                      go_wp2
                      refine bodyPost_ret (results_ct rfl _ _ gb159 26 #[.int .i64 t160, .int .i64 a1_1, .slice A77 y171.length c77, .int .i64 t165, .slice Ao18 t166.length co18] (0, 0) _ rfl (by (with_reducible repeat (first | refine blk_drewN ?_ _ | refine blk_drew ?_ | refine blk_alloc ?_ _)); refine blk_put (cs := #[.int .i64 t160, .int .i64 a1_1, .slice A77 y171.length c77, .int .i64 t165, .slice none 0 0]) ?_ 4 _ rfl; (with_reducible repeat (first | refine blk_drewN ?_ _ | refine blk_drew ?_ | refine blk_alloc ?_ _)); refine blk_put (cs := #[.int .i64 t160, .int .i64 a1_1, .slice A77 y171.length c77, .int .i64 0, .slice none 0 0]) ?_ 3 _ rfl; (with_reducible repeat (first | refine blk_drewN ?_ _ | refine blk_drew ?_ | refine blk_alloc ?_ _)); refine blk_put (cs := #[.int .i64 t160, .int .i64 a1_1, .slice none 0 0, .int .i64 0, .slice none 0 0]) ?_ 2 _ rfl; (with_reducible repeat (first | refine blk_drewN ?_ _ | refine blk_drew ?_ | refine blk_alloc ?_ _)); refine blk_put (cs := #[.int .i64 t160, .int .i64 0, .slice none 0 0, .int .i64 0, .slice none 0 0]) ?_ 1 _ rfl; (with_reducible repeat (first | refine blk_drewN ?_ _ | refine blk_drew ?_ | refine blk_alloc ?_ _)); refine blk_put (cs := #[.int .i64 0, .int .i64 0, .slice none 0 0, .int .i64 0, .slice none 0 0]) ?_ 0 _ rfl; (with_reducible repeat (first | refine blk_drewN ?_ _ | refine blk_drew ?_ | refine blk_alloc ?_ _)); refine blk_far ?_ NB159_169.out _; (with_reducible repeat (first | refine blk_drewN ?_ _ | refine blk_drew ?_ | refine blk_alloc ?_ _)); refine blk_far ?_ NB159_169.out _; (with_reducible repeat (first | refine blk_drewN ?_ _ | refine blk_drew ?_ | refine blk_alloc ?_ _)); exact BK159.out) Try.underlying26 rfl (by kernel_rfl)) rfl ?_
                      exact ⟨_, _, by first | rfl | (simp [errW_none, errW_some] <;> rfl) | (simp only [← hji63]; first | rfl | (simp [errW_none, errW_some] <;> rfl)) | (simp [*, errW_none, errW_some] <;> rfl), by (with_reducible repeat (first | apply Kd.Q_alloc | apply Kd.Q_drewN | apply Kd.Q_drew)); exact Kd.Q_mono (Kd.Q_far (p := ⟨gb159, 4, none⟩) (Kd.Q_far (p := ⟨gb159, 3, none⟩) (Kd.Q_far (p := ⟨gb159, 2, none⟩) (Kd.Q_far (p := ⟨gb159, 1, none⟩) (Kd.Q_far (p := ⟨gb159, 0, none⟩) (Kd.Q_far (p := ⟨gb169, 1, none⟩) (Kd.Q_far (p := ⟨gb169, 2, none⟩) (Kd.Q_types (Kd.Q_types HO173.out BK169.out (by decide)) BK159.out (by decide)) (fun _ hk => hk.1.2) (.slice A77 y171.length c77)) (fun _ hk => hk.1.2) (.int .i64 a1_1)) (fun _ hk => hk.2) (.int .i64 t160)) (fun _ hk => hk.2) (.int .i64 a1_1)) (fun _ hk => hk.2) (.slice A77 y171.length c77)) (fun _ hk => hk.2) (.int .i64 t165)) (fun _ hk => hk.2) (.slice Ao18 t166.length co18)) (fun _ hk => hk.1.1), by (with_reducible repeat (first | apply Kd.R_alloc | apply Kd.R_drewN | apply Kd.R_drew)); exact Kd.R_mono (Kd.R_far (p := ⟨gb159, 4, none⟩) (Kd.R_far (p := ⟨gb159, 3, none⟩) (Kd.R_far (p := ⟨gb159, 2, none⟩) (Kd.R_far (p := ⟨gb159, 1, none⟩) (Kd.R_far (p := ⟨gb159, 0, none⟩) (Kd.R_far (p := ⟨gb169, 1, none⟩) (Kd.R_far (p := ⟨gb169, 2, none⟩) (Kd.R_types (Kd.R_types HO_170004.out BK169.out (by decide)) BK159.out (by decide)) (fun _ hk => hk.1.2) (.slice A77 y171.length c77)) (fun _ hk => hk.1.2) (.int .i64 a1_1)) (fun _ hk => hk.2) (.int .i64 t160)) (fun _ hk => hk.2) (.int .i64 a1_1)) (fun _ hk => hk.2) (.slice A77 y171.length c77)) (fun _ hk => hk.2) (.int .i64 t165)) (fun _ hk => hk.2) (.slice Ao18 t166.length co18)) (fun _ hk => hk.1.1), by repeat (first | (with_reducible first | exact HB.out | apply below_alloc | apply pw_below_drewN | apply below_drew1 | refine below_set ?_ GE157.out | refine below_set ?_ GE158.out | refine below_set ?_ GE159.out | refine below_set ?_ GE169.out) | exact HB.out)⟩
                    · rw [if_neg c67] at H
                      have c67b0 : decide (1000 ≤ a0_3) = false := decide_eq_false c67
                      clear c67
                      by_cases c79 : t166.length < 8796093022208
                      · rw [if_pos c79] at H
                        have LMc79 := Aside0.mk c79
                        clear c79
                        obtain ⟨y174, hy174⟩ : ∃ y_ : List ByteArray, y_ = (t166 ++ [a1_2]) := ⟨_, rfl⟩
                        replace H : (some (t160, a1_1, y171, wrap64 (t165 + 1), y174, true)) = some (r1, r2, r3, r4, r5, r6) := by first | (rw [hy174]; with_reducible exact H) | (have H2_ := (Option.bind_some _ _).symm.trans H; rw [hy174]; with_reducible exact H2_) | (have H2_ := (Option.bind_some _ _).symm.trans H; with_reducible exact H2_) | with_reducible exact H | (rw [hy174]; exact H) | exact H
                        have Ny174 := Aside0.mk hy174
                        clear hy174
                        simp only [Option.some.injEq, Prod.mk.injEq] at H
                        obtain ⟨rfl, rfl, rfl, rfl, rfl, rfl⟩ := H
                        have hnb80 := NB169_157.out
                        have hnc80 := NB157_169.out
                        have hnb81 := NB169_158.out
                        have hnc81 := NB158_169.out
                        have hnb82 := NB169_159.out
                        have hnc82 := NB159_169.out
                        have hcz83_0 : wc.cell? ⟨gb169, 0, none⟩ = some (.int .i64 t160) := (blk_cell BK169.out 0).trans rfl
                        have hcz83_1 : wc.cell? ⟨gb169, 1, none⟩ = some (.int .i64 t161) := (blk_cell BK169.out 1).trans rfl
                        have hcz83_2 : wc.cell? ⟨gb169, 2, none⟩ = some (.slice Ao17 t162.length co17) := (blk_cell BK169.out 2).trans rfl
                        have hcz83_3 : wc.cell? ⟨gb169, 3, none⟩ = some (.int .i64 t165) := (blk_cell BK169.out 3).trans rfl
                        have hcz83_4 : wc.cell? ⟨gb169, 4, none⟩ = some (.slice Ao18 t166.length co18) := (blk_cell BK169.out 4).trans rfl
                        have hfz83_0 := blk_frozen BK169.out 0
                        have hfz83_1 := blk_frozen BK169.out 1
                        have hfz83_2 := blk_frozen BK169.out 2
                        have hfz83_3 := blk_frozen BK169.out 3
                        have hfz83_4 := blk_frozen BK169.out 4
                        have hnb84 := NB158_157.out
                        have hnc84 := NB157_158.out
                        have hnb85 := NB158_159.out
                        have hnc85 := NB159_158.out
                        have hcz86_0 : wc.cell? ⟨gb158, 0, none⟩ = some (.int .i64 a1_0) := (blk_cell BK158.out 0).trans rfl
                        have hcz86_1 : wc.cell? ⟨gb158, 1, none⟩ = some (.int .i64 a1_1) := (blk_cell BK158.out 1).trans rfl
                        have hcz86_2 : wc.cell? ⟨gb158, 2, none⟩ = some (.string a1_2) := (blk_cell BK158.out 2).trans rfl
                        have hfz86_0 := blk_frozen BK158.out 0
                        have hfz86_1 := blk_frozen BK158.out 1
                        have hfz86_2 := blk_frozen BK158.out 2
                        have hnb87 := NB157_159.out
                        have hnc87 := NB159_157.out
                        have hcz88_0 : wc.cell? ⟨gb157, 0, none⟩ = some (.int .i64 a0_0) := (blk_cell BK157.out 0).trans rfl
                        have hcz88_1 : wc.cell? ⟨gb157, 1, none⟩ = some (.int .i64 a0_1) := (blk_cell BK157.out 1).trans rfl
                        have hcz88_2 : wc.cell? ⟨gb157, 2, none⟩ = some (.slice A0_2 l0_2.length c0_2) := (blk_cell BK157.out 2).trans rfl
                        have hcz88_3 : wc.cell? ⟨gb157, 3, none⟩ = some (.int .i64 a0_3) := (blk_cell BK157.out 3).trans rfl
                        have hcz88_4 : wc.cell? ⟨gb157, 4, none⟩ = some (.slice A0_4 l0_4.length c0_4) := (blk_cell BK157.out 4).trans rfl
                        have hfz88_0 := blk_frozen BK157.out 0
                        have hfz88_1 := blk_frozen BK157.out 1
                        have hfz88_2 := blk_frozen BK157.out 2
                        have hfz88_3 := blk_frozen BK157.out 3
                        have hfz88_4 := blk_frozen BK157.out 4
                        have q89 : ((ji63) : Int) ≤ ((t162.length : Int) : Int) := of_decide_eq_true (by first | (with_reducible assumption) | assumption)
                        obtain ⟨i089, hi089, _, hsz89, _⟩ := info_parts info9
                        have hcut89 := cut_from (P := Try.prog) 22 9 .i64 Try.underlying22 hi089 1 hsz89 Ao17 t162.length co17 (ji63) (of_decide_eq_true (by first | (with_reducible assumption) | assumption)) q89
                        have hr89 := Kd.Q_drop (k := ((ji63) : Int).toNat) HO_170002.out (by omega)
                        obtain ⟨A89, hA89⟩ : ∃ A1, A1 = (if co17 = ((ji63) : Int).toNat then Ao17 else (Ao17 : Option Addr).map (·.add (((ji63) : Int).toNat * 1))) := ⟨_, rfl⟩
                        obtain ⟨c89, hc89⟩ : ∃ c1, c1 = co17 - ((ji63) : Int).toNat := ⟨_, rfl⟩
                        have hy89 : y171.length = t162.length - ((ji63) : Int).toNat := (by rw [Ny171.out, List.length_drop])
                        rw [← Ny171.out] at hr89
                        rw [← hy89, ← hA89, ← hc89] at hcut89
                        replace hr89 : Kd.Q Kd.string 9 wc w.heap.size (fun k_ => some k_ ≠ (.slice Ao18 t166.length co18 : Value).ownBlock) (.slice A89 y171.length c89) y171 := (by rw [hA89, hc89, hy89]; exact hr89)
                        have HE89 : Aside0 ((Value.slice A89 y171.length c89).ownBlock = (.slice Ao17 t162.length co17 : Value).ownBlock) := ⟨by rw [hA89]; split <;> (cases (Ao17 : Option Addr) <;> first | rfl | (simp only [Option.map_some, Value.ownBlock]; unfold Addr.add; split <;> rfl))⟩
                        clear hy89 hi089 hsz89 HO_170002 hA89 hc89
                        have HO173 := Aside0.mk hr89
                        clear hr89
                        replace q89 := eq_true q89
                        have n_ := Aside0.mk (Kd.R_mono (ok' := fun k_ => some k_ ≠ (.slice A89 y171.length c89 : Value).ownBlock) HO_170004.out (fun k_ hk => (by rw [HE89.out]; exact hk)))
                        clear HO_170004
                        have HO_170004 := n_
                        clear n_
                        go_wp2_with (first | ((with_reducible refine gate_builtin (b := .append) (xs := #[.tmp 61, .tmp 64]) rfl ?_); (try (refine gate_guard (by rfl) ?_; dsimp only)); at_builtin; refine Kd.R_append Kd.string (w0 := w) w.heap.size rfl (.tmp 61) (.tmp 64) 22 9 (.string ⟨#[]⟩) 16 rfl Try.underlying22 info9 rfl (by decide) (by omega) (.slice Ao18 t166.length co18) t166 a1_2 [.string a1_2] (fun k_ => some k_ ≠ (.slice A89 y171.length c89 : Value).ownBlock) (fun _ => False) rfl (by first | (go_simp; done) | (go_simp; rfl)) ?aP (fun _ hk => hk.elim) ?aF ?aO ?aB ?aS ?aL ?_; (case aP => exact rfl); (case aB => exact (by repeat (first | (with_reducible first | exact HB.out | apply below_alloc | apply pw_below_drewN | apply below_drew1 | refine below_set ?_ GE157.out | refine below_set ?_ GE158.out | refine below_set ?_ GE159.out | refine below_set ?_ GE169.out) | exact HB.out))); (case aF => exact (fun k_ hk => Kd.fresh' (Kd.Q_lt (by (with_reducible repeat (first | apply Kd.Q_alloc | apply Kd.Q_drewN | apply Kd.Q_drew)); exact (Kd.Q_mono (Kd.Q_far (p := ⟨gb169, 1, none⟩) (Kd.Q_far (p := ⟨gb169, 2, none⟩) (Kd.Q_types HO173.out BK169.out (by decide)) (fun _ hk => hk.2) (.slice A89 y171.length c89)) (fun _ hk => hk.2) (.int .i64 a1_1)) (fun _ h_ => h_.1)))) k_ hk)); (case aO => exact (by (with_reducible repeat (first | apply Kd.R_alloc | apply Kd.R_drewN | apply Kd.R_drew)); exact Kd.R_mono (Kd.R_far (p := ⟨gb169, 1, none⟩) (Kd.R_far (p := ⟨gb169, 2, none⟩) (Kd.R_types HO_170004.out BK169.out (by decide)) (fun _ hk => hk.2) (.slice A89 y171.length c89)) (fun _ hk => hk.2) (.int .i64 a1_1)) (fun _ hk => hk.1))); (case aS => exact (below_size (by repeat (first | (with_reducible first | exact HB.out | apply below_alloc | apply pw_below_drewN | apply below_drew1 | refine below_set ?_ GE157.out | refine below_set ?_ GE158.out | refine below_set ?_ GE159.out | refine below_set ?_ GE169.out) | exact HB.out)))); (case aL => have := LMc79.out; omega); intro v175 w90 ho hb hg hat; rw [← Ny174.out] at ho; have n0_ := Aside0.mk (Kd.Q_after (ok := (fun _ => True)) (by (with_reducible repeat (first | apply Kd.Q_alloc | apply Kd.Q_drewN | apply Kd.Q_drew)); exact Kd.Q_mono (Kd.Q_far (p := ⟨gb169, 1, none⟩) (Kd.Q_far (p := ⟨gb169, 2, none⟩) (Kd.Q_types HO173.out BK169.out (by decide)) (fun _ hk => hk.2) (.slice A89 y171.length c89)) (fun _ hk => hk.2) (.int .i64 a1_1)) (fun _ hk => ⟨trivial, hk.1⟩)) hg hat); have n1_ := Aside0.mk (blk_grown (g := gb157) (o := .cells #[.int .i64 a0_0, .int .i64 a0_1, .slice A0_2 l0_2.length c0_2, .int .i64 a0_3, .slice A0_4 l0_4.length c0_4] 26 (0, 0)) (by (with_reducible repeat (first | refine blk_drewN ?_ _ | refine blk_drew ?_ | refine blk_alloc ?_ _)); refine blk_far ?_ NB157_169.out _; (with_reducible repeat (first | refine blk_drewN ?_ _ | refine blk_drew ?_ | refine blk_alloc ?_ _)); refine blk_far ?_ NB157_169.out _; (with_reducible repeat (first | refine blk_drewN ?_ _ | refine blk_drew ?_ | refine blk_alloc ?_ _)); exact BK157.out) hg (Kd.R_ne HO_170004.out BK157.out (by decide))); have n2_ := Aside0.mk (blk_grown (g := gb158) (o := .cells #[.int .i64 a1_0, .int .i64 a1_1, .string a1_2] 36 (0, 0)) (by (with_reducible repeat (first | refine blk_drewN ?_ _ | refine blk_drew ?_ | refine blk_alloc ?_ _)); refine blk_far ?_ NB158_169.out _; (with_reducible repeat (first | refine blk_drewN ?_ _ | refine blk_drew ?_ | refine blk_alloc ?_ _)); refine blk_far ?_ NB158_169.out _; (with_reducible repeat (first | refine blk_drewN ?_ _ | refine blk_drew ?_ | refine blk_alloc ?_ _)); exact BK158.out) hg (Kd.R_ne HO_170004.out BK158.out (by decide))); have n3_ := Aside0.mk (blk_grown (g := gb159) (o := .cells #[.int .i64 0, .int .i64 0, .slice none 0 0, .int .i64 0, .slice none 0 0] 26 (0, 0)) (by (with_reducible repeat (first | refine blk_drewN ?_ _ | refine blk_drew ?_ | refine blk_alloc ?_ _)); refine blk_far ?_ NB159_169.out _; (with_reducible repeat (first | refine blk_drewN ?_ _ | refine blk_drew ?_ | refine blk_alloc ?_ _)); refine blk_far ?_ NB159_169.out _; (with_reducible repeat (first | refine blk_drewN ?_ _ | refine blk_drew ?_ | refine blk_alloc ?_ _)); exact BK159.out) hg (Kd.R_ne HO_170004.out BK159.out (by decide))); have n4_ := Aside0.mk (blk_grown (g := gb169) (o := .cells #[.int .i64 t160, .int .i64 a1_1, .slice A89 y171.length c89, .int .i64 t165, .slice Ao18 t166.length co18] 26 (0, 0)) (by (with_reducible repeat (first | refine blk_drewN ?_ _ | refine blk_drew ?_ | refine blk_alloc ?_ _)); refine blk_put (cs := #[.int .i64 t160, .int .i64 t161, .slice A89 y171.length c89, .int .i64 t165, .slice Ao18 t166.length co18]) ?_ 1 _ rfl; (with_reducible repeat (first | refine blk_drewN ?_ _ | refine blk_drew ?_ | refine blk_alloc ?_ _)); refine blk_put (cs := #[.int .i64 t160, .int .i64 t161, .slice Ao17 t162.length co17, .int .i64 t165, .slice Ao18 t166.length co18]) ?_ 2 _ rfl; (with_reducible repeat (first | refine blk_drewN ?_ _ | refine blk_drew ?_ | refine blk_alloc ?_ _)); exact BK169.out) hg (Kd.R_ne HO_170004.out BK169.out (by decide))); have n5_ := Aside0.mk (hb); have n6_ := Aside0.mk (ho); clear HO173; clear BK157; clear BK158; clear BK159; clear BK169; clear HB; clear HO_170004; have HO173 := n0_; have BK157 := n1_; have BK158 := n2_; have BK159 := n3_; have BK169 := n4_; have HB := n5_; have HO176 := n6_; clear n0_ n1_ n2_ n3_ n4_ n5_ n6_; clear ho hb hg hat; obtain ⟨Ao91, co91, eo91⟩ := Kd.R_slice HO176.out; subst eo91; have hcz92_0 : w90.cell? ⟨gb169, 0, none⟩ = some (.int .i64 t160) := (blk_cell BK169.out 0).trans rfl; have hcz92_1 : w90.cell? ⟨gb169, 1, none⟩ = some (.int .i64 a1_1) := (blk_cell BK169.out 1).trans rfl; have hcz92_2 : w90.cell? ⟨gb169, 2, none⟩ = some (.slice A89 y171.length c89) := (blk_cell BK169.out 2).trans rfl; have hcz92_3 : w90.cell? ⟨gb169, 3, none⟩ = some (.int .i64 t165) := (blk_cell BK169.out 3).trans rfl; have hcz92_4 : w90.cell? ⟨gb169, 4, none⟩ = some (.slice Ao18 t166.length co18) := (blk_cell BK169.out 4).trans rfl; have hfz92_0 := blk_frozen BK169.out 0; have hfz92_1 := blk_frozen BK169.out 1; have hfz92_2 := blk_frozen BK169.out 2; have hfz92_3 := blk_frozen BK169.out 3; have hfz92_4 := blk_frozen BK169.out 4; have hcz93_0 : w90.cell? ⟨gb159, 0, none⟩ = some (.int .i64 0) := (blk_cell BK159.out 0).trans rfl; have hcz93_1 : w90.cell? ⟨gb159, 1, none⟩ = some (.int .i64 0) := (blk_cell BK159.out 1).trans rfl; have hcz93_2 : w90.cell? ⟨gb159, 2, none⟩ = some (.slice none 0 0) := (blk_cell BK159.out 2).trans rfl; have hcz93_3 : w90.cell? ⟨gb159, 3, none⟩ = some (.int .i64 0) := (blk_cell BK159.out 3).trans rfl; have hcz93_4 : w90.cell? ⟨gb159, 4, none⟩ = some (.slice none 0 0) := (blk_cell BK159.out 4).trans rfl; have hfz93_0 := blk_frozen BK159.out 0; have hfz93_1 := blk_frozen BK159.out 1; have hfz93_2 := blk_frozen BK159.out 2; have hfz93_3 := blk_frozen BK159.out 3; have hfz93_4 := blk_frozen BK159.out 4))
                        refine bodyPost_ret (results_ct rfl _ _ gb159 26 #[.int .i64 t160, .int .i64 a1_1, .slice A89 y171.length c89, .int .i64 (wrap64 (t165 + 1)), .slice Ao91 y174.length co91] (0, 0) _ rfl (by (with_reducible repeat (first | refine blk_drewN ?_ _ | refine blk_drew ?_ | refine blk_alloc ?_ _)); refine blk_put (cs := #[.int .i64 t160, .int .i64 a1_1, .slice A89 y171.length c89, .int .i64 (wrap64 (t165 + 1)), .slice none 0 0]) ?_ 4 _ rfl; (with_reducible repeat (first | refine blk_drewN ?_ _ | refine blk_drew ?_ | refine blk_alloc ?_ _)); refine blk_put (cs := #[.int .i64 t160, .int .i64 a1_1, .slice A89 y171.length c89, .int .i64 0, .slice none 0 0]) ?_ 3 _ rfl; (with_reducible repeat (first | refine blk_drewN ?_ _ | refine blk_drew ?_ | refine blk_alloc ?_ _)); refine blk_put (cs := #[.int .i64 t160, .int .i64 a1_1, .slice none 0 0, .int .i64 0, .slice none 0 0]) ?_ 2 _ rfl; (with_reducible repeat (first | refine blk_drewN ?_ _ | refine blk_drew ?_ | refine blk_alloc ?_ _)); refine blk_put (cs := #[.int .i64 t160, .int .i64 0, .slice none 0 0, .int .i64 0, .slice none 0 0]) ?_ 1 _ rfl; (with_reducible repeat (first | refine blk_drewN ?_ _ | refine blk_drew ?_ | refine blk_alloc ?_ _)); refine blk_put (cs := #[.int .i64 0, .int .i64 0, .slice none 0 0, .int .i64 0, .slice none 0 0]) ?_ 0 _ rfl; (with_reducible repeat (first | refine blk_drewN ?_ _ | refine blk_drew ?_ | refine blk_alloc ?_ _)); refine blk_far ?_ NB159_169.out _; (with_reducible repeat (first | refine blk_drewN ?_ _ | refine blk_drew ?_ | refine blk_alloc ?_ _)); refine blk_far ?_ NB159_169.out _; (with_reducible repeat (first | refine blk_drewN ?_ _ | refine blk_drew ?_ | refine blk_alloc ?_ _)); exact BK159.out) Try.underlying26 rfl (by kernel_rfl)) rfl ?_
                        exact ⟨_, _, by first | rfl | (simp [errW_none, errW_some] <;> rfl) | (simp only [← hji63]; first | rfl | (simp [errW_none, errW_some] <;> rfl)) | (simp [*, errW_none, errW_some] <;> rfl), by (with_reducible repeat (first | apply Kd.Q_alloc | apply Kd.Q_drewN | apply Kd.Q_drew)); exact Kd.Q_mono (Kd.Q_far (p := ⟨gb159, 4, none⟩) (Kd.Q_far (p := ⟨gb159, 3, none⟩) (Kd.Q_far (p := ⟨gb159, 2, none⟩) (Kd.Q_far (p := ⟨gb159, 1, none⟩) (Kd.Q_far (p := ⟨gb159, 0, none⟩) (Kd.Q_far (p := ⟨gb169, 3, none⟩) (Kd.Q_far (p := ⟨gb169, 4, none⟩) (Kd.Q_types (Kd.Q_types HO173.out BK169.out (by decide)) BK159.out (by decide)) (fun _ hk => hk.1.2) (.slice Ao91 y174.length co91)) (fun _ hk => hk.1.2) (.int .i64 (wrap64 (t165 + 1)))) (fun _ hk => hk.2) (.int .i64 t160)) (fun _ hk => hk.2) (.int .i64 a1_1)) (fun _ hk => hk.2) (.slice A89 y171.length c89)) (fun _ hk => hk.2) (.int .i64 (wrap64 (t165 + 1)))) (fun _ hk => hk.2) (.slice Ao91 y174.length co91)) (fun _ hk => hk.1.1.2), by (with_reducible repeat (first | apply Kd.R_alloc | apply Kd.R_drewN | apply Kd.R_drew)); exact Kd.R_mono (Kd.R_far (p := ⟨gb159, 4, none⟩) (Kd.R_far (p := ⟨gb159, 3, none⟩) (Kd.R_far (p := ⟨gb159, 2, none⟩) (Kd.R_far (p := ⟨gb159, 1, none⟩) (Kd.R_far (p := ⟨gb159, 0, none⟩) (Kd.R_far (p := ⟨gb169, 3, none⟩) (Kd.R_far (p := ⟨gb169, 4, none⟩) (Kd.R_types (Kd.R_types HO176.out BK169.out (by decide)) BK159.out (by decide)) (fun _ hk => hk.1.2) (.slice Ao91 y174.length co91)) (fun _ hk => hk.1.2) (.int .i64 (wrap64 (t165 + 1)))) (fun _ hk => hk.2) (.int .i64 t160)) (fun _ hk => hk.2) (.int .i64 a1_1)) (fun _ hk => hk.2) (.slice A89 y171.length c89)) (fun _ hk => hk.2) (.int .i64 (wrap64 (t165 + 1)))) (fun _ hk => hk.2) (.slice Ao91 y174.length co91)) (fun _ hk => hk.1.1), by repeat (first | (with_reducible first | exact HB.out | apply below_alloc | apply pw_below_drewN | apply below_drew1 | refine below_set ?_ GE157.out | refine below_set ?_ GE158.out | refine below_set ?_ GE159.out | refine below_set ?_ GE169.out) | exact HB.out)⟩
                      · rw [if_neg c79] at H
                        exact absurd H (by simp)
                  · rw [if_neg c66] at H
                    have c66b0 : (a1_0 == (wrap64 (a0_3 + 1))) = false := beq_eq_false_iff_ne.mpr c66
                    have c66b1 : (a1_0 != (wrap64 (a0_3 + 1))) = true := bne_iff_ne.mpr c66
                    simp only [Option.some.injEq, Prod.mk.injEq] at H
                    obtain ⟨rfl, rfl, rfl, rfl, rfl, rfl⟩ := H
                    have hnb94 := NB169_157.out
                    have hnc94 := NB157_169.out
                    have hnb95 := NB169_158.out
                    have hnc95 := NB158_169.out
                    have hnb96 := NB169_159.out
                    have hnc96 := NB159_169.out
                    have hcz97_0 : wc.cell? ⟨gb169, 0, none⟩ = some (.int .i64 t160) := (blk_cell BK169.out 0).trans rfl
                    have hcz97_1 : wc.cell? ⟨gb169, 1, none⟩ = some (.int .i64 t161) := (blk_cell BK169.out 1).trans rfl
                    have hcz97_2 : wc.cell? ⟨gb169, 2, none⟩ = some (.slice Ao17 t162.length co17) := (blk_cell BK169.out 2).trans rfl
                    have hcz97_3 : wc.cell? ⟨gb169, 3, none⟩ = some (.int .i64 t165) := (blk_cell BK169.out 3).trans rfl
                    have hcz97_4 : wc.cell? ⟨gb169, 4, none⟩ = some (.slice Ao18 t166.length co18) := (blk_cell BK169.out 4).trans rfl
                    have hfz97_0 := blk_frozen BK169.out 0
                    have hfz97_1 := blk_frozen BK169.out 1
                    have hfz97_2 := blk_frozen BK169.out 2
                    have hfz97_3 := blk_frozen BK169.out 3
                    have hfz97_4 := blk_frozen BK169.out 4
                    have hnb98 := NB158_157.out
                    have hnc98 := NB157_158.out
                    have hnb99 := NB158_159.out
                    have hnc99 := NB159_158.out
                    have hcz100_0 : wc.cell? ⟨gb158, 0, none⟩ = some (.int .i64 a1_0) := (blk_cell BK158.out 0).trans rfl
                    have hcz100_1 : wc.cell? ⟨gb158, 1, none⟩ = some (.int .i64 a1_1) := (blk_cell BK158.out 1).trans rfl
                    have hcz100_2 : wc.cell? ⟨gb158, 2, none⟩ = some (.string a1_2) := (blk_cell BK158.out 2).trans rfl
                    have hfz100_0 := blk_frozen BK158.out 0
                    have hfz100_1 := blk_frozen BK158.out 1
                    have hfz100_2 := blk_frozen BK158.out 2
                    have hnb101 := NB157_159.out
                    have hnc101 := NB159_157.out
                    have hcz102_0 : wc.cell? ⟨gb157, 0, none⟩ = some (.int .i64 a0_0) := (blk_cell BK157.out 0).trans rfl
                    have hcz102_1 : wc.cell? ⟨gb157, 1, none⟩ = some (.int .i64 a0_1) := (blk_cell BK157.out 1).trans rfl
                    have hcz102_2 : wc.cell? ⟨gb157, 2, none⟩ = some (.slice A0_2 l0_2.length c0_2) := (blk_cell BK157.out 2).trans rfl
                    have hcz102_3 : wc.cell? ⟨gb157, 3, none⟩ = some (.int .i64 a0_3) := (blk_cell BK157.out 3).trans rfl
                    have hcz102_4 : wc.cell? ⟨gb157, 4, none⟩ = some (.slice A0_4 l0_4.length c0_4) := (blk_cell BK157.out 4).trans rfl
                    have hfz102_0 := blk_frozen BK157.out 0
                    have hfz102_1 := blk_frozen BK157.out 1
                    have hfz102_2 := blk_frozen BK157.out 2
                    have hfz102_3 := blk_frozen BK157.out 3
                    have hfz102_4 := blk_frozen BK157.out 4
                    have q103 : ((ji63) : Int) ≤ ((t162.length : Int) : Int) := of_decide_eq_true (by first | (with_reducible assumption) | assumption)
                    obtain ⟨i0103, hi0103, _, hsz103, _⟩ := info_parts info9
                    have hcut103 := cut_from (P := Try.prog) 22 9 .i64 Try.underlying22 hi0103 1 hsz103 Ao17 t162.length co17 (ji63) (of_decide_eq_true (by first | (with_reducible assumption) | assumption)) q103
                    have hr103 := Kd.Q_drop (k := ((ji63) : Int).toNat) HO_170002.out (by omega)
                    obtain ⟨A103, hA103⟩ : ∃ A1, A1 = (if co17 = ((ji63) : Int).toNat then Ao17 else (Ao17 : Option Addr).map (·.add (((ji63) : Int).toNat * 1))) := ⟨_, rfl⟩
                    obtain ⟨c103, hc103⟩ : ∃ c1, c1 = co17 - ((ji63) : Int).toNat := ⟨_, rfl⟩
                    have hy103 : y171.length = t162.length - ((ji63) : Int).toNat := (by rw [Ny171.out, List.length_drop])
                    rw [← Ny171.out] at hr103
                    rw [← hy103, ← hA103, ← hc103] at hcut103
                    replace hr103 : Kd.Q Kd.string 9 wc w.heap.size (fun k_ => some k_ ≠ (.slice Ao18 t166.length co18 : Value).ownBlock) (.slice A103 y171.length c103) y171 := (by rw [hA103, hc103, hy103]; exact hr103)
                    have HE103 : Aside0 ((Value.slice A103 y171.length c103).ownBlock = (.slice Ao17 t162.length co17 : Value).ownBlock) := ⟨by rw [hA103]; split <;> (cases (Ao17 : Option Addr) <;> first | rfl | (simp only [Option.map_some, Value.ownBlock]; unfold Addr.add; split <;> rfl))⟩
                    clear hy103 hi0103 hsz103 HO_170002 hA103 hc103
                    have HO173 := Aside0.mk hr103
                    clear hr103
                    replace q103 := eq_true q103
                    have n_ := Aside0.mk (Kd.R_mono (ok' := fun k_ => some k_ ≠ (.slice A103 y171.length c103 : Value).ownBlock) HO_170004.out (fun k_ hk => (by rw [HE103.out]; exact hk)))
                    clear HO_170004
                    have HO_170004 := n_
                    clear n_
                    have hcz104_0 : wc.cell? ⟨gb159, 0, none⟩ = some (.int .i64 0) := (blk_cell BK159.out 0).trans rfl
                    have hcz104_1 : wc.cell? ⟨gb159, 1, none⟩ = some (.int .i64 0) := (blk_cell BK159.out 1).trans rfl
                    have hcz104_2 : wc.cell? ⟨gb159, 2, none⟩ = some (.slice none 0 0) := (blk_cell BK159.out 2).trans rfl
                    have hcz104_3 : wc.cell? ⟨gb159, 3, none⟩ = some (.int .i64 0) := (blk_cell BK159.out 3).trans rfl
                    have hcz104_4 : wc.cell? ⟨gb159, 4, none⟩ = some (.slice none 0 0) := (blk_cell BK159.out 4).trans rfl
                    have hfz104_0 := blk_frozen BK159.out 0
                    have hfz104_1 := blk_frozen BK159.out 1
                    have hfz104_2 := blk_frozen BK159.out 2
                    have hfz104_3 := blk_frozen BK159.out 3
                    have hfz104_4 := blk_frozen BK159.out 4
                    go_wp2
                    refine bodyPost_ret (results_ct rfl _ _ gb159 26 #[.int .i64 t160, .int .i64 a1_1, .slice A103 y171.length c103, .int .i64 t165, .slice Ao18 t166.length co18] (0, 0) _ rfl (by (with_reducible repeat (first | refine blk_drewN ?_ _ | refine blk_drew ?_ | refine blk_alloc ?_ _)); refine blk_put (cs := #[.int .i64 t160, .int .i64 a1_1, .slice A103 y171.length c103, .int .i64 t165, .slice none 0 0]) ?_ 4 _ rfl; (with_reducible repeat (first | refine blk_drewN ?_ _ | refine blk_drew ?_ | refine blk_alloc ?_ _)); refine blk_put (cs := #[.int .i64 t160, .int .i64 a1_1, .slice A103 y171.length c103, .int .i64 0, .slice none 0 0]) ?_ 3 _ rfl; (with_reducible repeat (first | refine blk_drewN ?_ _ | refine blk_drew ?_ | refine blk_alloc ?_ _)); refine blk_put (cs := #[.int .i64 t160, .int .i64 a1_1, .slice none 0 0, .int .i64 0, .slice none 0 0]) ?_ 2 _ rfl; (with_reducible repeat (first | refine blk_drewN ?_ _ | refine blk_drew ?_ | refine blk_alloc ?_ _)); refine blk_put (cs := #[.int .i64 t160, .int .i64 0, .slice none 0 0, .int .i64 0, .slice none 0 0]) ?_ 1 _ rfl; (with_reducible repeat (first | refine blk_drewN ?_ _ | refine blk_drew ?_ | refine blk_alloc ?_ _)); refine blk_put (cs := #[.int .i64 0, .int .i64 0, .slice none 0 0, .int .i64 0, .slice none 0 0]) ?_ 0 _ rfl; (with_reducible repeat (first | refine blk_drewN ?_ _ | refine blk_drew ?_ | refine blk_alloc ?_ _)); refine blk_far ?_ NB159_169.out _; (with_reducible repeat (first | refine blk_drewN ?_ _ | refine blk_drew ?_ | refine blk_alloc ?_ _)); refine blk_far ?_ NB159_169.out _; (with_reducible repeat (first | refine blk_drewN ?_ _ | refine blk_drew ?_ | refine blk_alloc ?_ _)); exact BK159.out) Try.underlying26 rfl (by kernel_rfl)) rfl ?_
                    exact ⟨_, _, by first | rfl | (simp [errW_none, errW_some] <;> rfl) | (simp only [← hji63]; first | rfl | (simp [errW_none, errW_some] <;> rfl)) | (simp [*, errW_none, errW_some] <;> rfl), by (with_reducible repeat (first | apply Kd.Q_alloc | apply Kd.Q_drewN | apply Kd.Q_drew)); exact Kd.Q_mono (Kd.Q_far (p := ⟨gb159, 4, none⟩) (Kd.Q_far (p := ⟨gb159, 3, none⟩) (Kd.Q_far (p := ⟨gb159, 2, none⟩) (Kd.Q_far (p := ⟨gb159, 1, none⟩) (Kd.Q_far (p := ⟨gb159, 0, none⟩) (Kd.Q_far (p := ⟨gb169, 1, none⟩) (Kd.Q_far (p := ⟨gb169, 2, none⟩) (Kd.Q_types (Kd.Q_types HO173.out BK169.out (by decide)) BK159.out (by decide)) (fun _ hk => hk.1.2) (.slice A103 y171.length c103)) (fun _ hk => hk.1.2) (.int .i64 a1_1)) (fun _ hk => hk.2) (.int .i64 t160)) (fun _ hk => hk.2) (.int .i64 a1_1)) (fun _ hk => hk.2) (.slice A103 y171.length c103)) (fun _ hk => hk.2) (.int .i64 t165)) (fun _ hk => hk.2) (.slice Ao18 t166.length co18)) (fun _ hk => hk.1.1), by (with_reducible repeat (first | apply Kd.R_alloc | apply Kd.R_drewN | apply Kd.R_drew)); exact Kd.R_mono (Kd.R_far (p := ⟨gb159, 4, none⟩) (Kd.R_far (p := ⟨gb159, 3, none⟩) (Kd.R_far (p := ⟨gb159, 2, none⟩) (Kd.R_far (p := ⟨gb159, 1, none⟩) (Kd.R_far (p := ⟨gb159, 0, none⟩) (Kd.R_far (p := ⟨gb169, 1, none⟩) (Kd.R_far (p := ⟨gb169, 2, none⟩) (Kd.R_types (Kd.R_types HO_170004.out BK169.out (by decide)) BK159.out (by decide)) (fun _ hk => hk.1.2) (.slice A103 y171.length c103)) (fun _ hk => hk.1.2) (.int .i64 a1_1)) (fun _ hk => hk.2) (.int .i64 t160)) (fun _ hk => hk.2) (.int .i64 a1_1)) (fun _ hk => hk.2) (.slice A103 y171.length c103)) (fun _ hk => hk.2) (.int .i64 t165)) (fun _ hk => hk.2) (.slice Ao18 t166.length co18)) (fun _ hk => hk.1.1), by repeat (first | (with_reducible first | exact HB.out | apply below_alloc | apply pw_below_drewN | apply below_drew1 | refine below_set ?_ GE157.out | refine below_set ?_ GE158.out | refine below_set ?_ GE159.out | refine below_set ?_ GE169.out) | exact HB.out)⟩
                · rw [if_neg c65] at H
                  exact absurd H (by simp)
              · rw [if_neg c64] at H
                exact absurd H (by simp)
            · replace c62 := Bool.eq_false_iff.mpr c62
              subst c62
              have H1 : (if a1_0 = (wrap64 (a0_3 + 1)) then (if a0_3 ≥ 1000 then (some (t160, t161, t162, t165, t166, false)) else (if t166.length < 8796093022208 then (some (t160, t161, t162, wrap64 (t165 + 1), (t166 ++ [a1_2]), true)) else (none))) else (some (t160, t161, t162, t165, t166, false))) = some (r1, r2, r3, r4, r5, r6) := by rw [if_neg (show ¬ (false = true) by decide)] at H; exact H
              clear H
              have H := H1
              clear H1
              by_cases c105 : a1_0 = (wrap64 (a0_3 + 1))
              · rw [if_pos c105] at H
                have c105b0 : (a1_0 == (wrap64 (a0_3 + 1))) = true := beq_iff_eq.mpr c105
                have c105b1 : (a1_0 != (wrap64 (a0_3 + 1))) = false := bne_eq_false_iff_eq.mpr c105
                clear c105
                by_cases c106 : a0_3 ≥ 1000
                · rw [if_pos c106] at H
                  have c106b0 : decide (1000 ≤ a0_3) = true := decide_eq_true c106
                  clear c106
                  simp only [Option.some.injEq, Prod.mk.injEq] at H
                  obtain ⟨rfl, rfl, rfl, rfl, rfl, rfl⟩ := H
                  have hnb107 := NB158_157.out
                  have hnc107 := NB157_158.out
                  have hnb108 := NB158_159.out
                  have hnc108 := NB159_158.out
                  have hnb109 := NB158_169.out
                  have hnc109 := NB169_158.out
                  have hcz110_0 : wc.cell? ⟨gb158, 0, none⟩ = some (.int .i64 a1_0) := (blk_cell BK158.out 0).trans rfl
                  have hcz110_1 : wc.cell? ⟨gb158, 1, none⟩ = some (.int .i64 a1_1) := (blk_cell BK158.out 1).trans rfl
                  have hcz110_2 : wc.cell? ⟨gb158, 2, none⟩ = some (.string a1_2) := (blk_cell BK158.out 2).trans rfl
                  have hfz110_0 := blk_frozen BK158.out 0
                  have hfz110_1 := blk_frozen BK158.out 1
                  have hfz110_2 := blk_frozen BK158.out 2
                  have hnb111 := NB157_159.out
                  have hnc111 := NB159_157.out
                  have hnb112 := NB157_169.out
                  have hnc112 := NB169_157.out
                  have hcz113_0 : wc.cell? ⟨gb157, 0, none⟩ = some (.int .i64 a0_0) := (blk_cell BK157.out 0).trans rfl
                  have hcz113_1 : wc.cell? ⟨gb157, 1, none⟩ = some (.int .i64 a0_1) := (blk_cell BK157.out 1).trans rfl
                  have hcz113_2 : wc.cell? ⟨gb157, 2, none⟩ = some (.slice A0_2 l0_2.length c0_2) := (blk_cell BK157.out 2).trans rfl
                  have hcz113_3 : wc.cell? ⟨gb157, 3, none⟩ = some (.int .i64 a0_3) := (blk_cell BK157.out 3).trans rfl
                  have hcz113_4 : wc.cell? ⟨gb157, 4, none⟩ = some (.slice A0_4 l0_4.length c0_4) := (blk_cell BK157.out 4).trans rfl
                  have hfz113_0 := blk_frozen BK157.out 0
                  have hfz113_1 := blk_frozen BK157.out 1
                  have hfz113_2 := blk_frozen BK157.out 2
                  have hfz113_3 := blk_frozen BK157.out 3
                  have hfz113_4 := blk_frozen BK157.out 4
                  have hnb114 := NB169_159.out
                  have hnc114 := NB159_169.out
                  have hcz115_0 : wc.cell? ⟨gb169, 0, none⟩ = some (.int .i64 t160) := (blk_cell BK169.out 0).trans rfl
                  have hcz115_1 : wc.cell? ⟨gb169, 1, none⟩ = some (.int .i64 t161) := (blk_cell BK169.out 1).trans rfl
                  have hcz115_2 : wc.cell? ⟨gb169, 2, none⟩ = some (.slice Ao17 t162.length co17) := (blk_cell BK169.out 2).trans rfl
                  have hcz115_3 : wc.cell? ⟨gb169, 3, none⟩ = some (.int .i64 t165) := (blk_cell BK169.out 3).trans rfl
                  have hcz115_4 : wc.cell? ⟨gb169, 4, none⟩ = some (.slice Ao18 t166.length co18) := (blk_cell BK169.out 4).trans rfl
                  have hfz115_0 := blk_frozen BK169.out 0
                  have hfz115_1 := blk_frozen BK169.out 1
                  have hfz115_2 := blk_frozen BK169.out 2
                  have hfz115_3 := blk_frozen BK169.out 3
                  have hfz115_4 := blk_frozen BK169.out 4
                  have hcz116_0 : wc.cell? ⟨gb159, 0, none⟩ = some (.int .i64 0) := (blk_cell BK159.out 0).trans rfl
                  have hcz116_1 : wc.cell? ⟨gb159, 1, none⟩ = some (.int .i64 0) := (blk_cell BK159.out 1).trans rfl
                  have hcz116_2 : wc.cell? ⟨gb159, 2, none⟩ = some (.slice none 0 0) := (blk_cell BK159.out 2).trans rfl
                  have hcz116_3 : wc.cell? ⟨gb159, 3, none⟩ = some (.int .i64 0) := (blk_cell BK159.out 3).trans rfl
                  have hcz116_4 : wc.cell? ⟨gb159, 4, none⟩ = some (.slice none 0 0) := (blk_cell BK159.out 4).trans rfl
                  have hfz116_0 := blk_frozen BK159.out 0
                  have hfz116_1 := blk_frozen BK159.out 1
                  have hfz116_2 := blk_frozen BK159.out 2
                  have hfz116_3 := blk_frozen BK159.out 3
                  have hfz116_4 := blk_frozen BK159.out 4
                  go_wp2
                  refine bodyPost_ret (results_ct rfl _ _ gb159 26 #[.int .i64 t160, .int .i64 t161, .slice Ao17 t162.length co17, .int .i64 t165, .slice Ao18 t166.length co18] (0, 0) _ rfl (by (with_reducible repeat (first | refine blk_drewN ?_ _ | refine blk_drew ?_ | refine blk_alloc ?_ _)); refine blk_put (cs := #[.int .i64 t160, .int .i64 t161, .slice Ao17 t162.length co17, .int .i64 t165, .slice none 0 0]) ?_ 4 _ rfl; (with_reducible repeat (first | refine blk_drewN ?_ _ | refine blk_drew ?_ | refine blk_alloc ?_ _)); refine blk_put (cs := #[.int .i64 t160, .int .i64 t161, .slice Ao17 t162.length co17, .int .i64 0, .slice none 0 0]) ?_ 3 _ rfl; (with_reducible repeat (first | refine blk_drewN ?_ _ | refine blk_drew ?_ | refine blk_alloc ?_ _)); refine blk_put (cs := #[.int .i64 t160, .int .i64 t161, .slice none 0 0, .int .i64 0, .slice none 0 0]) ?_ 2 _ rfl; (with_reducible repeat (first | refine blk_drewN ?_ _ | refine blk_drew ?_ | refine blk_alloc ?_ _)); refine blk_put (cs := #[.int .i64 t160, .int .i64 0, .slice none 0 0, .int .i64 0, .slice none 0 0]) ?_ 1 _ rfl; (with_reducible repeat (first | refine blk_drewN ?_ _ | refine blk_drew ?_ | refine blk_alloc ?_ _)); refine blk_put (cs := #[.int .i64 0, .int .i64 0, .slice none 0 0, .int .i64 0, .slice none 0 0]) ?_ 0 _ rfl; (with_reducible repeat (first | refine blk_drewN ?_ _ | refine blk_drew ?_ | refine blk_alloc ?_ _)); exact BK159.out) Try.underlying26 rfl (by kernel_rfl)) rfl ?_
                  exact ⟨_, _, by first | rfl | (simp [errW_none, errW_some] <;> rfl) | (simp [*, errW_none, errW_some] <;> rfl), by (with_reducible repeat (first | apply Kd.Q_alloc | apply Kd.Q_drewN | apply Kd.Q_drew)); exact Kd.Q_mono (Kd.Q_far (p := ⟨gb159, 4, none⟩) (Kd.Q_far (p := ⟨gb159, 3, none⟩) (Kd.Q_far (p := ⟨gb159, 2, none⟩) (Kd.Q_far (p := ⟨gb159, 1, none⟩) (Kd.Q_far (p := ⟨gb159, 0, none⟩) (Kd.Q_types HO_170002.out BK159.out (by decide)) (fun _ hk => hk.2) (.int .i64 t160)) (fun _ hk => hk.2) (.int .i64 t161)) (fun _ hk => hk.2) (.slice Ao17 t162.length co17)) (fun _ hk => hk.2) (.int .i64 t165)) (fun _ hk => hk.2) (.slice Ao18 t166.length co18)) (fun _ hk => hk.1), by (with_reducible repeat (first | apply Kd.R_alloc | apply Kd.R_drewN | apply Kd.R_drew)); exact Kd.R_mono (Kd.R_far (p := ⟨gb159, 4, none⟩) (Kd.R_far (p := ⟨gb159, 3, none⟩) (Kd.R_far (p := ⟨gb159, 2, none⟩) (Kd.R_far (p := ⟨gb159, 1, none⟩) (Kd.R_far (p := ⟨gb159, 0, none⟩) (Kd.R_types HO_170004.out BK159.out (by decide)) (fun _ hk => hk.2) (.int .i64 t160)) (fun _ hk => hk.2) (.int .i64 t161)) (fun _ hk => hk.2) (.slice Ao17 t162.length co17)) (fun _ hk => hk.2) (.int .i64 t165)) (fun _ hk => hk.2) (.slice Ao18 t166.length co18)) (fun _ hk => hk.1), by repeat (first | (with_reducible first | exact HB.out | apply below_alloc | apply pw_below_drewN | apply below_drew1 | refine below_set ?_ GE157.out | refine below_set ?_ GE158.out | refine below_set ?_ GE159.out | refine below_set ?_ GE169.out) | exact HB.out)⟩
                · rw [if_neg c106] at H
                  have c106b0 : decide (1000 ≤ a0_3) = false := decide_eq_false c106
                  clear c106
                  by_cases c117 : t166.length < 8796093022208
                  · rw [if_pos c117] at H
                    have LMc117 := Aside0.mk c117
                    clear c117
                    obtain ⟨y177, hy177⟩ : ∃ y_ : List ByteArray, y_ = (t166 ++ [a1_2]) := ⟨_, rfl⟩
                    replace H : (some (t160, t161, t162, wrap64 (t165 + 1), y177, true)) = some (r1, r2, r3, r4, r5, r6) := by first | (rw [hy177]; with_reducible exact H) | (have H2_ := (Option.bind_some _ _).symm.trans H; rw [hy177]; with_reducible exact H2_) | (have H2_ := (Option.bind_some _ _).symm.trans H; with_reducible exact H2_) | with_reducible exact H | (rw [hy177]; exact H) | exact H
                    have Ny177 := Aside0.mk hy177
                    clear hy177
                    simp only [Option.some.injEq, Prod.mk.injEq] at H
                    obtain ⟨rfl, rfl, rfl, rfl, rfl, rfl⟩ := H
                    have hnb118 := NB158_157.out
                    have hnc118 := NB157_158.out
                    have hnb119 := NB158_159.out
                    have hnc119 := NB159_158.out
                    have hnb120 := NB158_169.out
                    have hnc120 := NB169_158.out
                    have hcz121_0 : wc.cell? ⟨gb158, 0, none⟩ = some (.int .i64 a1_0) := (blk_cell BK158.out 0).trans rfl
                    have hcz121_1 : wc.cell? ⟨gb158, 1, none⟩ = some (.int .i64 a1_1) := (blk_cell BK158.out 1).trans rfl
                    have hcz121_2 : wc.cell? ⟨gb158, 2, none⟩ = some (.string a1_2) := (blk_cell BK158.out 2).trans rfl
                    have hfz121_0 := blk_frozen BK158.out 0
                    have hfz121_1 := blk_frozen BK158.out 1
                    have hfz121_2 := blk_frozen BK158.out 2
                    have hnb122 := NB157_159.out
                    have hnc122 := NB159_157.out
                    have hnb123 := NB157_169.out
                    have hnc123 := NB169_157.out
                    have hcz124_0 : wc.cell? ⟨gb157, 0, none⟩ = some (.int .i64 a0_0) := (blk_cell BK157.out 0).trans rfl
                    have hcz124_1 : wc.cell? ⟨gb157, 1, none⟩ = some (.int .i64 a0_1) := (blk_cell BK157.out 1).trans rfl
                    have hcz124_2 : wc.cell? ⟨gb157, 2, none⟩ = some (.slice A0_2 l0_2.length c0_2) := (blk_cell BK157.out 2).trans rfl
                    have hcz124_3 : wc.cell? ⟨gb157, 3, none⟩ = some (.int .i64 a0_3) := (blk_cell BK157.out 3).trans rfl
                    have hcz124_4 : wc.cell? ⟨gb157, 4, none⟩ = some (.slice A0_4 l0_4.length c0_4) := (blk_cell BK157.out 4).trans rfl
                    have hfz124_0 := blk_frozen BK157.out 0
                    have hfz124_1 := blk_frozen BK157.out 1
                    have hfz124_2 := blk_frozen BK157.out 2
                    have hfz124_3 := blk_frozen BK157.out 3
                    have hfz124_4 := blk_frozen BK157.out 4
                    have hnb125 := NB169_159.out
                    have hnc125 := NB159_169.out
                    have hcz126_0 : wc.cell? ⟨gb169, 0, none⟩ = some (.int .i64 t160) := (blk_cell BK169.out 0).trans rfl
                    have hcz126_1 : wc.cell? ⟨gb169, 1, none⟩ = some (.int .i64 t161) := (blk_cell BK169.out 1).trans rfl
                    have hcz126_2 : wc.cell? ⟨gb169, 2, none⟩ = some (.slice Ao17 t162.length co17) := (blk_cell BK169.out 2).trans rfl
                    have hcz126_3 : wc.cell? ⟨gb169, 3, none⟩ = some (.int .i64 t165) := (blk_cell BK169.out 3).trans rfl
                    have hcz126_4 : wc.cell? ⟨gb169, 4, none⟩ = some (.slice Ao18 t166.length co18) := (blk_cell BK169.out 4).trans rfl
                    have hfz126_0 := blk_frozen BK169.out 0
                    have hfz126_1 := blk_frozen BK169.out 1
                    have hfz126_2 := blk_frozen BK169.out 2
                    have hfz126_3 := blk_frozen BK169.out 3
                    have hfz126_4 := blk_frozen BK169.out 4
                    go_wp2_with (first | ((with_reducible refine gate_builtin (b := .append) (xs := #[.tmp 61, .tmp 64]) rfl ?_); (try (refine gate_guard (by rfl) ?_; dsimp only)); at_builtin; refine Kd.R_append Kd.string (w0 := w) w.heap.size rfl (.tmp 61) (.tmp 64) 22 9 (.string ⟨#[]⟩) 16 rfl Try.underlying22 info9 rfl (by decide) (by omega) (.slice Ao18 t166.length co18) t166 a1_2 [.string a1_2] (fun k_ => some k_ ≠ (.slice Ao17 t162.length co17 : Value).ownBlock) (fun _ => False) rfl rfl ?aP (fun _ hk => hk.elim) ?aF ?aO ?aB ?aS ?aL ?_; (case aP => exact rfl); (case aB => exact (by repeat (first | (with_reducible first | exact HB.out | apply below_alloc | apply pw_below_drewN | apply below_drew1 | refine below_set ?_ GE157.out | refine below_set ?_ GE158.out | refine below_set ?_ GE159.out | refine below_set ?_ GE169.out) | exact HB.out))); (case aF => exact (fun k_ hk => Kd.fresh' (Kd.Q_lt (by (with_reducible repeat (first | apply Kd.Q_alloc | apply Kd.Q_drewN | apply Kd.Q_drew)); exact HO_170002.out)) k_ hk)); (case aO => exact (by (with_reducible repeat (first | apply Kd.R_alloc | apply Kd.R_drewN | apply Kd.R_drew)); exact HO_170004.out)); (case aS => exact (below_size (by repeat (first | (with_reducible first | exact HB.out | apply below_alloc | apply pw_below_drewN | apply below_drew1 | refine below_set ?_ GE157.out | refine below_set ?_ GE158.out | refine below_set ?_ GE159.out | refine below_set ?_ GE169.out) | exact HB.out)))); (case aL => have := LMc117.out; omega); intro v178 w127 ho hb hg hat; rw [← Ny177.out] at ho; have n0_ := Aside0.mk (Kd.Q_after (ok := (fun _ => True)) (by (with_reducible repeat (first | apply Kd.Q_alloc | apply Kd.Q_drewN | apply Kd.Q_drew)); exact Kd.Q_mono HO_170002.out (fun _ hk => ⟨trivial, hk⟩)) hg hat); have n1_ := Aside0.mk (blk_grown (g := gb157) (o := .cells #[.int .i64 a0_0, .int .i64 a0_1, .slice A0_2 l0_2.length c0_2, .int .i64 a0_3, .slice A0_4 l0_4.length c0_4] 26 (0, 0)) (by (with_reducible repeat (first | refine blk_drewN ?_ _ | refine blk_drew ?_ | refine blk_alloc ?_ _)); exact BK157.out) hg (Kd.R_ne HO_170004.out BK157.out (by decide))); have n2_ := Aside0.mk (blk_grown (g := gb158) (o := .cells #[.int .i64 a1_0, .int .i64 a1_1, .string a1_2] 36 (0, 0)) (by (with_reducible repeat (first | refine blk_drewN ?_ _ | refine blk_drew ?_ | refine blk_alloc ?_ _)); exact BK158.out) hg (Kd.R_ne HO_170004.out BK158.out (by decide))); have n3_ := Aside0.mk (blk_grown (g := gb159) (o := .cells #[.int .i64 0, .int .i64 0, .slice none 0 0, .int .i64 0, .slice none 0 0] 26 (0, 0)) (by (with_reducible repeat (first | refine blk_drewN ?_ _ | refine blk_drew ?_ | refine blk_alloc ?_ _)); exact BK159.out) hg (Kd.R_ne HO_170004.out BK159.out (by decide))); have n4_ := Aside0.mk (blk_grown (g := gb169) (o := .cells #[.int .i64 t160, .int .i64 t161, .slice Ao17 t162.length co17, .int .i64 t165, .slice Ao18 t166.length co18] 26 (0, 0)) (by (with_reducible repeat (first | refine blk_drewN ?_ _ | refine blk_drew ?_ | refine blk_alloc ?_ _)); exact BK169.out) hg (Kd.R_ne HO_170004.out BK169.out (by decide))); have n5_ := Aside0.mk (hb); have n6_ := Aside0.mk (ho); clear HO_170002; clear BK157; clear BK158; clear BK159; clear BK169; clear HB; clear HO_170004; have HO_170002 := n0_; have BK157 := n1_; have BK158 := n2_; have BK159 := n3_; have BK169 := n4_; have HB := n5_; have HO179 := n6_; clear n0_ n1_ n2_ n3_ n4_ n5_ n6_; clear ho hb hg hat; obtain ⟨Ao128, co128, eo128⟩ := Kd.R_slice HO179.out; subst eo128; have hcz129_0 : w127.cell? ⟨gb169, 0, none⟩ = some (.int .i64 t160) := (blk_cell BK169.out 0).trans rfl; have hcz129_1 : w127.cell? ⟨gb169, 1, none⟩ = some (.int .i64 t161) := (blk_cell BK169.out 1).trans rfl; have hcz129_2 : w127.cell? ⟨gb169, 2, none⟩ = some (.slice Ao17 t162.length co17) := (blk_cell BK169.out 2).trans rfl; have hcz129_3 : w127.cell? ⟨gb169, 3, none⟩ = some (.int .i64 t165) := (blk_cell BK169.out 3).trans rfl; have hcz129_4 : w127.cell? ⟨gb169, 4, none⟩ = some (.slice Ao18 t166.length co18) := (blk_cell BK169.out 4).trans rfl; have hfz129_0 := blk_frozen BK169.out 0; have hfz129_1 := blk_frozen BK169.out 1; have hfz129_2 := blk_frozen BK169.out 2; have hfz129_3 := blk_frozen BK169.out 3; have hfz129_4 := blk_frozen BK169.out 4; have hcz130_0 : w127.cell? ⟨gb159, 0, none⟩ = some (.int .i64 0) := (blk_cell BK159.out 0).trans rfl; have hcz130_1 : w127.cell? ⟨gb159, 1, none⟩ = some (.int .i64 0) := (blk_cell BK159.out 1).trans rfl; have hcz130_2 : w127.cell? ⟨gb159, 2, none⟩ = some (.slice none 0 0) := (blk_cell BK159.out 2).trans rfl; have hcz130_3 : w127.cell? ⟨gb159, 3, none⟩ = some (.int .i64 0) := (blk_cell BK159.out 3).trans rfl; have hcz130_4 : w127.cell? ⟨gb159, 4, none⟩ = some (.slice none 0 0) := (blk_cell BK159.out 4).trans rfl; have hfz130_0 := blk_frozen BK159.out 0; have hfz130_1 := blk_frozen BK159.out 1; have hfz130_2 := blk_frozen BK159.out 2; have hfz130_3 := blk_frozen BK159.out 3; have hfz130_4 := blk_frozen BK159.out 4))
                    refine bodyPost_ret (results_ct rfl _ _ gb159 26 #[.int .i64 t160, .int .i64 t161, .slice Ao17 t162.length co17, .int .i64 (wrap64 (t165 + 1)), .slice Ao128 y177.length co128] (0, 0) _ rfl (by (with_reducible repeat (first | refine blk_drewN ?_ _ | refine blk_drew ?_ | refine blk_alloc ?_ _)); refine blk_put (cs := #[.int .i64 t160, .int .i64 t161, .slice Ao17 t162.length co17, .int .i64 (wrap64 (t165 + 1)), .slice none 0 0]) ?_ 4 _ rfl; (with_reducible repeat (first | refine blk_drewN ?_ _ | refine blk_drew ?_ | refine blk_alloc ?_ _)); refine blk_put (cs := #[.int .i64 t160, .int .i64 t161, .slice Ao17 t162.length co17, .int .i64 0, .slice none 0 0]) ?_ 3 _ rfl; (with_reducible repeat (first | refine blk_drewN ?_ _ | refine blk_drew ?_ | refine blk_alloc ?_ _)); refine blk_put (cs := #[.int .i64 t160, .int .i64 t161, .slice none 0 0, .int .i64 0, .slice none 0 0]) ?_ 2 _ rfl; (with_reducible repeat (first | refine blk_drewN ?_ _ | refine blk_drew ?_ | refine blk_alloc ?_ _)); refine blk_put (cs := #[.int .i64 t160, .int .i64 0, .slice none 0 0, .int .i64 0, .slice none 0 0]) ?_ 1 _ rfl; (with_reducible repeat (first | refine blk_drewN ?_ _ | refine blk_drew ?_ | refine blk_alloc ?_ _)); refine blk_put (cs := #[.int .i64 0, .int .i64 0, .slice none 0 0, .int .i64 0, .slice none 0 0]) ?_ 0 _ rfl; (with_reducible repeat (first | refine blk_drewN ?_ _ | refine blk_drew ?_ | refine blk_alloc ?_ _)); refine blk_far ?_ NB159_169.out _; (with_reducible repeat (first | refine blk_drewN ?_ _ | refine blk_drew ?_ | refine blk_alloc ?_ _)); refine blk_far ?_ NB159_169.out _; (with_reducible repeat (first | refine blk_drewN ?_ _ | refine blk_drew ?_ | refine blk_alloc ?_ _)); exact BK159.out) Try.underlying26 rfl (by kernel_rfl)) rfl ?_
                    exact ⟨_, _, by first | rfl | (simp [errW_none, errW_some] <;> rfl) | (simp [*, errW_none, errW_some] <;> rfl), by (with_reducible repeat (first | apply Kd.Q_alloc | apply Kd.Q_drewN | apply Kd.Q_drew)); exact Kd.Q_mono (Kd.Q_far (p := ⟨gb159, 4, none⟩) (Kd.Q_far (p := ⟨gb159, 3, none⟩) (Kd.Q_far (p := ⟨gb159, 2, none⟩) (Kd.Q_far (p := ⟨gb159, 1, none⟩) (Kd.Q_far (p := ⟨gb159, 0, none⟩) (Kd.Q_far (p := ⟨gb169, 3, none⟩) (Kd.Q_far (p := ⟨gb169, 4, none⟩) (Kd.Q_types (Kd.Q_types HO_170002.out BK169.out (by decide)) BK159.out (by decide)) (fun _ hk => hk.1.2) (.slice Ao128 y177.length co128)) (fun _ hk => hk.1.2) (.int .i64 (wrap64 (t165 + 1)))) (fun _ hk => hk.2) (.int .i64 t160)) (fun _ hk => hk.2) (.int .i64 t161)) (fun _ hk => hk.2) (.slice Ao17 t162.length co17)) (fun _ hk => hk.2) (.int .i64 (wrap64 (t165 + 1)))) (fun _ hk => hk.2) (.slice Ao128 y177.length co128)) (fun _ hk => hk.1.1.2), by (with_reducible repeat (first | apply Kd.R_alloc | apply Kd.R_drewN | apply Kd.R_drew)); exact Kd.R_mono (Kd.R_far (p := ⟨gb159, 4, none⟩) (Kd.R_far (p := ⟨gb159, 3, none⟩) (Kd.R_far (p := ⟨gb159, 2, none⟩) (Kd.R_far (p := ⟨gb159, 1, none⟩) (Kd.R_far (p := ⟨gb159, 0, none⟩) (Kd.R_far (p := ⟨gb169, 3, none⟩) (Kd.R_far (p := ⟨gb169, 4, none⟩) (Kd.R_types (Kd.R_types HO179.out BK169.out (by decide)) BK159.out (by decide)) (fun _ hk => hk.1.2) (.slice Ao128 y177.length co128)) (fun _ hk => hk.1.2) (.int .i64 (wrap64 (t165 + 1)))) (fun _ hk => hk.2) (.int .i64 t160)) (fun _ hk => hk.2) (.int .i64 t161)) (fun _ hk => hk.2) (.slice Ao17 t162.length co17)) (fun _ hk => hk.2) (.int .i64 (wrap64 (t165 + 1)))) (fun _ hk => hk.2) (.slice Ao128 y177.length co128)) (fun _ hk => hk.1.1), by repeat (first | (with_reducible first | exact HB.out | apply below_alloc | apply pw_below_drewN | apply below_drew1 | refine below_set ?_ GE157.out | refine below_set ?_ GE158.out | refine below_set ?_ GE159.out | refine below_set ?_ GE169.out) | exact HB.out)⟩
                  · rw [if_neg c117] at H
                    exact absurd H (by simp)
              · rw [if_neg c105] at H
                have c105b0 : (a1_0 == (wrap64 (a0_3 + 1))) = false := beq_eq_false_iff_ne.mpr c105
                have c105b1 : (a1_0 != (wrap64 (a0_3 + 1))) = true := bne_iff_ne.mpr c105
                simp only [Option.some.injEq, Prod.mk.injEq] at H
                obtain ⟨rfl, rfl, rfl, rfl, rfl, rfl⟩ := H
                have hnb131 := NB158_157.out
                have hnc131 := NB157_158.out
                have hnb132 := NB158_159.out
                have hnc132 := NB159_158.out
                have hnb133 := NB158_169.out
                have hnc133 := NB169_158.out
                have hcz134_0 : wc.cell? ⟨gb158, 0, none⟩ = some (.int .i64 a1_0) := (blk_cell BK158.out 0).trans rfl
                have hcz134_1 : wc.cell? ⟨gb158, 1, none⟩ = some (.int .i64 a1_1) := (blk_cell BK158.out 1).trans rfl
                have hcz134_2 : wc.cell? ⟨gb158, 2, none⟩ = some (.string a1_2) := (blk_cell BK158.out 2).trans rfl
                have hfz134_0 := blk_frozen BK158.out 0
                have hfz134_1 := blk_frozen BK158.out 1
                have hfz134_2 := blk_frozen BK158.out 2
                have hnb135 := NB157_159.out
                have hnc135 := NB159_157.out
                have hnb136 := NB157_169.out
                have hnc136 := NB169_157.out
                have hcz137_0 : wc.cell? ⟨gb157, 0, none⟩ = some (.int .i64 a0_0) := (blk_cell BK157.out 0).trans rfl
                have hcz137_1 : wc.cell? ⟨gb157, 1, none⟩ = some (.int .i64 a0_1) := (blk_cell BK157.out 1).trans rfl
                have hcz137_2 : wc.cell? ⟨gb157, 2, none⟩ = some (.slice A0_2 l0_2.length c0_2) := (blk_cell BK157.out 2).trans rfl
                have hcz137_3 : wc.cell? ⟨gb157, 3, none⟩ = some (.int .i64 a0_3) := (blk_cell BK157.out 3).trans rfl
                have hcz137_4 : wc.cell? ⟨gb157, 4, none⟩ = some (.slice A0_4 l0_4.length c0_4) := (blk_cell BK157.out 4).trans rfl
                have hfz137_0 := blk_frozen BK157.out 0
                have hfz137_1 := blk_frozen BK157.out 1
                have hfz137_2 := blk_frozen BK157.out 2
                have hfz137_3 := blk_frozen BK157.out 3
                have hfz137_4 := blk_frozen BK157.out 4
                have hnb138 := NB169_159.out
                have hnc138 := NB159_169.out
                have hcz139_0 : wc.cell? ⟨gb169, 0, none⟩ = some (.int .i64 t160) := (blk_cell BK169.out 0).trans rfl
                have hcz139_1 : wc.cell? ⟨gb169, 1, none⟩ = some (.int .i64 t161) := (blk_cell BK169.out 1).trans rfl
                have hcz139_2 : wc.cell? ⟨gb169, 2, none⟩ = some (.slice Ao17 t162.length co17) := (blk_cell BK169.out 2).trans rfl
                have hcz139_3 : wc.cell? ⟨gb169, 3, none⟩ = some (.int .i64 t165) := (blk_cell BK169.out 3).trans rfl
                have hcz139_4 : wc.cell? ⟨gb169, 4, none⟩ = some (.slice Ao18 t166.length co18) := (blk_cell BK169.out 4).trans rfl
                have hfz139_0 := blk_frozen BK169.out 0
                have hfz139_1 := blk_frozen BK169.out 1
                have hfz139_2 := blk_frozen BK169.out 2
                have hfz139_3 := blk_frozen BK169.out 3
                have hfz139_4 := blk_frozen BK169.out 4
                have hcz140_0 : wc.cell? ⟨gb159, 0, none⟩ = some (.int .i64 0) := (blk_cell BK159.out 0).trans rfl
                have hcz140_1 : wc.cell? ⟨gb159, 1, none⟩ = some (.int .i64 0) := (blk_cell BK159.out 1).trans rfl
                have hcz140_2 : wc.cell? ⟨gb159, 2, none⟩ = some (.slice none 0 0) := (blk_cell BK159.out 2).trans rfl
                have hcz140_3 : wc.cell? ⟨gb159, 3, none⟩ = some (.int .i64 0) := (blk_cell BK159.out 3).trans rfl
                have hcz140_4 : wc.cell? ⟨gb159, 4, none⟩ = some (.slice none 0 0) := (blk_cell BK159.out 4).trans rfl
                have hfz140_0 := blk_frozen BK159.out 0
                have hfz140_1 := blk_frozen BK159.out 1
                have hfz140_2 := blk_frozen BK159.out 2
                have hfz140_3 := blk_frozen BK159.out 3
                have hfz140_4 := blk_frozen BK159.out 4
                go_wp2
                refine bodyPost_ret (results_ct rfl _ _ gb159 26 #[.int .i64 t160, .int .i64 t161, .slice Ao17 t162.length co17, .int .i64 t165, .slice Ao18 t166.length co18] (0, 0) _ rfl (by (with_reducible repeat (first | refine blk_drewN ?_ _ | refine blk_drew ?_ | refine blk_alloc ?_ _)); refine blk_put (cs := #[.int .i64 t160, .int .i64 t161, .slice Ao17 t162.length co17, .int .i64 t165, .slice none 0 0]) ?_ 4 _ rfl; (with_reducible repeat (first | refine blk_drewN ?_ _ | refine blk_drew ?_ | refine blk_alloc ?_ _)); refine blk_put (cs := #[.int .i64 t160, .int .i64 t161, .slice Ao17 t162.length co17, .int .i64 0, .slice none 0 0]) ?_ 3 _ rfl; (with_reducible repeat (first | refine blk_drewN ?_ _ | refine blk_drew ?_ | refine blk_alloc ?_ _)); refine blk_put (cs := #[.int .i64 t160, .int .i64 t161, .slice none 0 0, .int .i64 0, .slice none 0 0]) ?_ 2 _ rfl; (with_reducible repeat (first | refine blk_drewN ?_ _ | refine blk_drew ?_ | refine blk_alloc ?_ _)); refine blk_put (cs := #[.int .i64 t160, .int .i64 0, .slice none 0 0, .int .i64 0, .slice none 0 0]) ?_ 1 _ rfl; (with_reducible repeat (first | refine blk_drewN ?_ _ | refine blk_drew ?_ | refine blk_alloc ?_ _)); refine blk_put (cs := #[.int .i64 0, .int .i64 0, .slice none 0 0, .int .i64 0, .slice none 0 0]) ?_ 0 _ rfl; (with_reducible repeat (first | refine blk_drewN ?_ _ | refine blk_drew ?_ | refine blk_alloc ?_ _)); exact BK159.out) Try.underlying26 rfl (by kernel_rfl)) rfl ?_
                exact ⟨_, _, by first | rfl | (simp [errW_none, errW_some] <;> rfl) | (simp [*, errW_none, errW_some] <;> rfl), by (with_reducible repeat (first | apply Kd.Q_alloc | apply Kd.Q_drewN | apply Kd.Q_drew)); exact Kd.Q_mono (Kd.Q_far (p := ⟨gb159, 4, none⟩) (Kd.Q_far (p := ⟨gb159, 3, none⟩) (Kd.Q_far (p := ⟨gb159, 2, none⟩) (Kd.Q_far (p := ⟨gb159, 1, none⟩) (Kd.Q_far (p := ⟨gb159, 0, none⟩) (Kd.Q_types HO_170002.out BK159.out (by decide)) (fun _ hk => hk.2) (.int .i64 t160)) (fun _ hk => hk.2) (.int .i64 t161)) (fun _ hk => hk.2) (.slice Ao17 t162.length co17)) (fun _ hk => hk.2) (.int .i64 t165)) (fun _ hk => hk.2) (.slice Ao18 t166.length co18)) (fun _ hk => hk.1), by (with_reducible repeat (first | apply Kd.R_alloc | apply Kd.R_drewN | apply Kd.R_drew)); exact Kd.R_mono (Kd.R_far (p := ⟨gb159, 4, none⟩) (Kd.R_far (p := ⟨gb159, 3, none⟩) (Kd.R_far (p := ⟨gb159, 2, none⟩) (Kd.R_far (p := ⟨gb159, 1, none⟩) (Kd.R_far (p := ⟨gb159, 0, none⟩) (Kd.R_types HO_170004.out BK159.out (by decide)) (fun _ hk => hk.2) (.int .i64 t160)) (fun _ hk => hk.2) (.int .i64 t161)) (fun _ hk => hk.2) (.slice Ao17 t162.length co17)) (fun _ hk => hk.2) (.int .i64 t165)) (fun _ hk => hk.2) (.slice Ao18 t166.length co18)) (fun _ hk => hk.1), by repeat (first | (with_reducible first | exact HB.out | apply below_alloc | apply pw_below_drewN | apply below_drew1 | refine below_set ?_ GE157.out | refine below_set ?_ GE158.out | refine below_set ?_ GE159.out | refine below_set ?_ GE169.out) | exact HB.out)⟩

end Go.Proofs.Ytlidnobkkgcnlaa.PFnExactReceive
