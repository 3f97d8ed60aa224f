-- Written by a program out of the translation, for this claim.
import Derived.Test.YtfakkehopmihoaaPFnTornx0
import Derived.Test.YtfakkehopmihoaaPFnTornx11
namespace Go.Proofs.Ytfakkehopmihoaa.PFnTorn
open Go.RowKit Go.Proofs.YtfakkehopmihoaaW.PrintWords Go.Proofs.YtfakkehopmihoaaW.PrintLast Go.Proofs.YtfakkehopmihoaaW.PrintMore
attribute [local go_sem] binOp_gtr_str binOp_geq_str max2_int min2_int max_two min_two max_three min_three max_four min_four   -- for this text's walks alone
set_option linter.unusedVariables false
set_option linter.unusedSimpArgs false

/-! ### spec_FeedReader: function 33 -/
mutual
def spec_FeedReader.j0 : Nat → ByteArray → List ByteArray → Bool → ByteArray → Bool → Option (ByteArray × Bool × List ByteArray)
  | 0, _, _, _, _, _ => none
  | k + 1, x1, x6, x35, x191000, x191001 => if x35 = true then (some (x191000, x191001, x6)) else (if x191000.size + x1.size ≤ 9223372036854775807 then (spec_FeedReader.l0 k x6 (x191000 ++ x1) 0) else (none))
def spec_FeedReader.l0 : Nat → List ByteArray → ByteArray → Int → Option (ByteArray × Bool × List ByteArray)
  | 0, _, _, _ => none
  | k + 1, x6, x7, x8 => if x8 < (x7.size : Int) then (if 0 ≤ x8 then (if (wrap64 (bt x7 x8)) > 60 then (some ((⟨#[]⟩ : ByteArray), true, x6)) else (if (wrap64 ((x7.size : Int) - x8)) < (wrap64 ((wrap64 (bt x7 x8)) + 3)) then (if x8 ≤ (x7.size : Int) then (some (x7.extract (x8 : Int).toNat x7.size, false, x6)) else (none)) else (if 0 ≤ (wrap64 (x8 + 3)) then (if (wrap64 (x8 + 3)) ≤ (wrap64 ((wrap64 (x8 + 3)) + (wrap64 (bt x7 x8)))) then (if (wrap64 ((wrap64 (x8 + 3)) + (wrap64 (bt x7 x8)))) ≤ (x7.size : Int) then ((spec_FrameOf.f k (x7.extract ((wrap64 (x8 + 3)) : Int).toNat ((wrap64 ((wrap64 (x8 + 3)) + (wrap64 (bt x7 x8)))) : Int).toNat)).bind fun bt195 => (if x8 ≤ (wrap64 ((wrap64 (x8 + 3)) + (wrap64 (bt x7 x8)))) then (if bt195.1.toList = (x7.extract (x8 : Int).toNat ((wrap64 ((wrap64 (x8 + 3)) + (wrap64 (bt x7 x8)))) : Int).toNat).toList then (if x6.length < 8796093022208 then (spec_FeedReader.l0 k (x6 ++ [x7.extract ((wrap64 (x8 + 3)) : Int).toNat ((wrap64 ((wrap64 (x8 + 3)) + (wrap64 (bt x7 x8)))) : Int).toNat]) x7 (wrap64 ((wrap64 (x8 + (wrap64 (bt x7 x8)))) + 3))) else (none)) else (some ((⟨#[]⟩ : ByteArray), true, x6))) else (none))) else (none)) else (none)) else (none)))) else (none)) else (some ((⟨#[]⟩ : ByteArray), false, x6))
end
def spec_FeedReader.f (k : Nat) (a0_0 : ByteArray) (a0_1 : Bool) (a1 : ByteArray) : Option (ByteArray × Bool × List ByteArray) := (some (([] : List ByteArray) : List ByteArray)).bind fun y192 => (if a0_1 = true then (spec_FeedReader.j0 k a1 y192 true a0_0 a0_1) else (if (a0_0.size : Int) > 20000 then (spec_FeedReader.j0 k a1 y192 true a0_0 a0_1) else (if (a1.size : Int) > 20000 then (spec_FeedReader.j0 k a1 y192 true a0_0 a0_1) else (spec_FeedReader.j0 k a1 y192 (decide ((wrap64 ((a0_0.size : Int) + (a1.size : Int))) > 20000)) a0_0 a0_1))))
theorem spec_FeedReader.mono_l : ∀ k, (∀ y0 y1 y2 y3 y4, LeO (spec_FeedReader.j0 k y0 y1 y2 y3 y4) (spec_FeedReader.j0 (k + 1) y0 y1 y2 y3 y4)) ∧ (∀ y0 y1 y2, LeO (spec_FeedReader.l0 k y0 y1 y2) (spec_FeedReader.l0 (k + 1) y0 y1 y2))
  | 0 => ⟨fun _ _ _ _ _ r h => by simp [spec_FeedReader.j0] at h, fun _ _ _ r h => by simp [spec_FeedReader.l0] at h⟩
  | k + 1 => by
    obtain ⟨ih0, ih1⟩ := spec_FeedReader.mono_l k
    refine ⟨?_, ?_⟩
    · intro y0 y1 y2 y3 y4
      unfold spec_FeedReader.j0
      repeat' first
      | (with_reducible exact ih0 _ _ _ _ _)
      | (with_reducible exact ih1 _ _ _)
      | (with_reducible exact spec_FrameOf.mono _ _)
      | (with_reducible exact LeO.refl _)
      | (with_reducible exact LeO.none _)
      | (with_reducible refine LeO.ite ?_ ?_)
      | (with_reducible refine LeO.bind ?_ (fun _ => ?_))
      | exact ih0 _ _ _ _ _
      | exact ih1 _ _ _
      | exact spec_FrameOf.mono _ _
      | exact LeO.none _
      | refine LeO.ite ?_ ?_
      | refine LeO.bind ?_ (fun _ => ?_)
    · intro y0 y1 y2
      unfold spec_FeedReader.l0
      repeat' first
      | (with_reducible exact ih0 _ _ _ _ _)
      | (with_reducible exact ih1 _ _ _)
      | (with_reducible exact spec_FrameOf.mono _ _)
      | (with_reducible exact LeO.refl _)
      | (with_reducible exact LeO.none _)
      | (with_reducible refine LeO.ite ?_ ?_)
      | (with_reducible refine LeO.bind ?_ (fun _ => ?_))
      | exact ih0 _ _ _ _ _
      | exact ih1 _ _ _
      | exact spec_FrameOf.mono _ _
      | exact LeO.none _
      | refine LeO.ite ?_ ?_
      | refine LeO.bind ?_ (fun _ => ?_)
theorem spec_FeedReader.mono : ∀ a0 a1 a2 k, LeO (spec_FeedReader.f k a0 a1 a2) (spec_FeedReader.f (k + 1) a0 a1 a2) := by
  intro a0 a1 a2 k
  obtain ⟨ih0, ih1⟩ := spec_FeedReader.mono_l k
  unfold spec_FeedReader.f
  repeat' first
      | (with_reducible exact ih0 _ _ _ _ _)
      | (with_reducible exact ih1 _ _ _)
      | (with_reducible exact spec_FrameOf.mono _ _)
      | (with_reducible exact LeO.refl _)
      | (with_reducible exact LeO.none _)
      | (with_reducible refine LeO.ite ?_ ?_)
      | (with_reducible refine LeO.bind ?_ (fun _ => ?_))
      | exact ih0 _ _ _ _ _
      | exact ih1 _ _ _
      | exact spec_FrameOf.mono _ _
      | exact LeO.none _
      | refine LeO.ite ?_ ?_
      | refine LeO.bind ?_ (fun _ => ?_)
set_option maxHeartbeats 8000000 in
set_option maxRecDepth 100000 in
theorem spec_FeedReader.calls (k : Nat) (a0_0 : ByteArray) (a0_1 : Bool) (a1 : ByteArray) (r1 : ByteArray) (r2 : Bool) (r3 : List ByteArray) (w : World) (h : spec_FeedReader.f k a0_0 a0_1 a1 = some (r1, r2, r3)) :
    Calls Try.prog 33 #[.agg #[.string a0_0, .bool a0_1], .string a1] w fun e w' => ∃ v2_ : Value, e = .returned (.tuple #[.agg #[.string r1, .bool r2], v2_]) ∧ Kd.R Kd.string 9 w' w.heap.size (fun _ => True) v2_ r3 ∧ Below w.heap.size w w' := by
  have hu48 := Try.underlying48
  have HB := Aside0.mk (Below.refl w.heap.size w)
  have H : ((some (([] : List ByteArray) : List ByteArray)).bind fun y192 => (if a0_1 = true then (spec_FeedReader.j0 k a1 y192 true a0_0 a0_1) else (if (a0_0.size : Int) > 20000 then (spec_FeedReader.j0 k a1 y192 true a0_0 a0_1) else (if (a1.size : Int) > 20000 then (spec_FeedReader.j0 k a1 y192 true a0_0 a0_1) else (spec_FeedReader.j0 k a1 y192 (decide ((wrap64 ((a0_0.size : Int) + (a1.size : Int))) > 20000)) a0_0 a0_1))))) = some (r1, r2, r3) := h
  clear h
  obtain ⟨y192, hy192⟩ : ∃ y_ : List ByteArray, y_ = (([] : List ByteArray)) := ⟨_, rfl⟩
  replace H : (if a0_1 = true then (spec_FeedReader.j0 k a1 y192 true a0_0 a0_1) else (if (a0_0.size : Int) > 20000 then (spec_FeedReader.j0 k a1 y192 true a0_0 a0_1) else (if (a1.size : Int) > 20000 then (spec_FeedReader.j0 k a1 y192 true a0_0 a0_1) else (spec_FeedReader.j0 k a1 y192 (decide ((wrap64 ((a0_0.size : Int) + (a1.size : Int))) > 20000)) a0_0 a0_1)))) = some (r1, r2, r3) := by first | (rw [hy192]; with_reducible exact H) | (have H2_ := (Option.bind_some _ _).symm.trans H; rw [hy192]; with_reducible exact H2_) | (have H2_ := (Option.bind_some _ _).symm.trans H; with_reducible exact H2_) | with_reducible exact H | (rw [hy192]; exact H) | exact H
  have Ny192 := Aside0.mk hy192
  clear hy192
  have HC3 := Aside0.mk H
  clear H
  go_enter Try.func33, Try.ntmps33
  go_upto_region 2 with (first | ((with_reducible refine gate_dst (N := 2) rfl ?_); (try (refine gate_guard (by rfl) ?_; dsimp only)); refine box_event ?hg (N := 2) ?hd (cs := #[.string a0_0, .bool a0_1]) (t := 48) ?hr ?_; (case hd => rfl); (case hg => rfl); (case hr => first | (go_simp; done) | (go_simp; rfl)); intro gb190 hg w4 hbox hb; have n0_ := Aside0.mk (below_step (by repeat (first | (with_reducible first | exact HB.out | apply below_alloc | apply pw_below_drewN | apply below_drew1) | exact HB.out)) hb); have n1_ := Aside0.mk (hbox); have n2_ := Aside0.mk ((by rw [hg]; exact (below_size (by repeat (first | (with_reducible first | exact HB.out | apply below_alloc | apply pw_below_drewN | apply below_drew1) | exact HB.out))) : w.heap.size ≤ gb190)); have n3_ := Aside0.mk ((by rw [hg]; exact (below_size (by repeat (first | (with_reducible first | exact HB.out | apply below_alloc | apply pw_below_drewN | apply below_drew1) | exact HB.out))) : w.heap.size ≤ gb190)); clear HB; have HB := n0_; have BK190 := n1_; have GW190 := n2_; have GE190 := n3_; clear n0_ n1_ n2_ n3_; clear hb hbox hg) | ((with_reducible refine gate_dst (N := 4) rfl ?_); (try (refine gate_guard (by rfl) ?_; dsimp only)); refine box_event ?hg (N := 4) ?hd (cs := #[.string (⟨#[]⟩ : ByteArray), .bool false]) (t := 48) ?hr ?_; (case hd => rfl); (case hg => rfl); (case hr => first | (go_simp; done) | (go_simp; rfl)); intro gb191 hg w5 hbox hb; have n0_ := Aside0.mk (blk_below (g := gb190) (o := .cells #[.string a0_0, .bool a0_1] 48 (0, 0)) (by (with_reducible repeat (first | refine blk_drewN ?_ _ | refine blk_drew ?_ | refine blk_alloc ?_ _)); exact BK190.out) hb); have n1_ := Aside0.mk (below_step (by repeat (first | (with_reducible first | exact HB.out | apply below_alloc | apply pw_below_drewN | apply below_drew1 | refine below_set ?_ GE190.out) | exact HB.out)) hb); have n2_ := Aside0.mk (hbox); have n3_ := Aside0.mk ((by rw [hg]; exact (below_size (by repeat (first | (with_reducible first | exact HB.out | apply below_alloc | apply pw_below_drewN | apply below_drew1 | refine below_set ?_ GE190.out) | exact HB.out))) : w.heap.size ≤ gb191)); have n4_ := Aside0.mk ((by rw [hg]; exact (below_size (by repeat (first | (with_reducible first | exact HB.out | apply below_alloc | apply pw_below_drewN | apply below_drew1 | refine below_set ?_ GE190.out) | exact HB.out))) : w.heap.size ≤ gb191)); have n5_ := Aside0.mk ((by rw [hg]; exact Nat.ne_of_lt (blk_lt (g := gb190) (o := .cells #[.string a0_0, .bool a0_1] 48 (0, 0)) (by (with_reducible repeat (first | refine blk_drewN ?_ _ | refine blk_drew ?_ | refine blk_alloc ?_ _)); exact BK190.out)) : gb190 ≠ gb191)); have n6_ := Aside0.mk ((by rw [hg]; exact Nat.ne_of_gt (blk_lt (g := gb190) (o := .cells #[.string a0_0, .bool a0_1] 48 (0, 0)) (by (with_reducible repeat (first | refine blk_drewN ?_ _ | refine blk_drew ?_ | refine blk_alloc ?_ _)); exact BK190.out)) : gb191 ≠ gb190)); clear BK190; clear HB; have BK190 := n0_; have HB := n1_; have BK191 := n2_; have GW191 := n3_; have GE191 := n4_; have NB190_191 := n5_; have NB191_190 := n6_; clear n0_ n1_ n2_ n3_ n4_ n5_ n6_; clear hb hbox hg) | ((with_reducible refine gate_dst (N := 13) rfl ?_); (try (refine gate_guard (by rfl) ?_; dsimp only)); refine Kd.R_lit Kd.string _ 9 ?hg (N := 13) ?hd (xs := ([] : List ByteArray)) (inner := []) (ok := fun _ => True) (okp := fun _ => True) ?hr ?hp (fun _ hk => hk) trivial (Below.refl _ _) (Nat.le_refl _) (by simp) ?_; (case hd => rfl); (case hg => rfl); (case hr => first | (go_simp; done) | (go_simp; rfl)); (case hp => exact (Reps.none _ _)); intro v193 w6 ho7 hb hg_ hnew_; clear hg_ hnew_; (first | rw [← Ny192.out] at ho7 | (simp only [Int.reduceToNat] at ho7; rw [← Ny192.out] at ho7)); have n0_ := Aside0.mk (Kd.R_lower ho7 (below_size (by repeat (first | (with_reducible first | exact HB.out | apply below_alloc | apply pw_below_drewN | apply below_drew1 | refine below_set ?_ GE190.out | refine below_set ?_ GE191.out) | exact HB.out)))); have n1_ := Aside0.mk (blk_below (g := gb190) (o := .cells #[.string a0_0, .bool a0_1] 48 (0, 0)) (by (with_reducible repeat (first | refine blk_drewN ?_ _ | refine blk_drew ?_ | refine blk_alloc ?_ _)); exact BK190.out) hb); have n2_ := Aside0.mk (blk_below (g := gb191) (o := .cells #[.string (⟨#[]⟩ : ByteArray), .bool false] 48 (0, 0)) (by (with_reducible repeat (first | refine blk_drewN ?_ _ | refine blk_drew ?_ | refine blk_alloc ?_ _)); exact BK191.out) hb); have n3_ := Aside0.mk (below_step (by repeat (first | (with_reducible first | exact HB.out | apply below_alloc | apply pw_below_drewN | apply below_drew1 | refine below_set ?_ GE190.out | refine below_set ?_ GE191.out) | exact HB.out)) hb); clear BK190; clear BK191; clear HB; have HO194 := n0_; have BK190 := n1_; have BK191 := n2_; have HB := n3_; clear n0_ n1_ n2_ n3_; clear hb ho7))
  (try simp only [Act.put, List.setIfInBounds_toArray, List.set_cons_zero, List.set_cons_succ])
  go_cut [35] (fun v35 wc => ∃ (kq : Nat) (x35_2 : Bool), v35 = .bool x35_2 ∧ Aside0 (spec_FeedReader.j0 kq a1 y192 x35_2 a0_0 a0_1 = some (r1, r2, r3)) ∧ Aside0 (kq ≤ k) ∧ Aside0 (Kd.R Kd.string 9 wc w.heap.size (fun _ => True) v193 y192) ∧ Aside0 (wc.heap[gb190]? = some (.cells #[.string a0_0, .bool a0_1] 48 (0, 0))) ∧ Aside0 (wc.heap[gb191]? = some (.cells #[.string (⟨#[]⟩ : ByteArray), .bool false] 48 (0, 0))) ∧ Aside0 (Below w.heap.size w wc))
  case first =>
    have H := HC3.out
    clear HC3
    by_cases c8 : a0_1 = true
    · subst c8
      have H1 : (spec_FeedReader.j0 k a1 y192 true a0_0 true) = some (r1, r2, r3) := by rw [if_pos rfl] at H; exact H
      clear H
      have H := H1
      clear H1
      have H' := Aside0.mk H
      clear H
      have hnb9 := NB190_191.out
      have hnc9 := NB191_190.out
      have hcz10_0 : w6.cell? ⟨gb190, 0, none⟩ = some (.string a0_0) := (blk_cell BK190.out 0).trans rfl
      have hcz10_1 : w6.cell? ⟨gb190, 1, none⟩ = some (.bool true) := (blk_cell BK190.out 1).trans rfl
      have hfz10_0 := blk_frozen BK190.out 0
      have hfz10_1 := blk_frozen BK190.out 1
      go_wp2
      go_meet
      case rel => exact ⟨_, (true), (by first | rfl | (simp; done) | (simp [*]; done)), H', ⟨by first | omega | exact Nat.le_refl _⟩, ⟨by (with_reducible repeat (first | apply Kd.R_alloc | apply Kd.R_drewN | apply Kd.R_drew)); exact HO194.out⟩, ⟨by (with_reducible repeat (first | refine blk_drewN ?_ _ | refine blk_drew ?_ | refine blk_alloc ?_ _)); exact BK190.out⟩, ⟨by (with_reducible repeat (first | refine blk_drewN ?_ _ | refine blk_drew ?_ | refine blk_alloc ?_ _)); exact BK191.out⟩, ⟨by repeat (first | (with_reducible first | exact HB.out | apply below_alloc | apply pw_below_drewN | apply below_drew1 | refine below_set ?_ GE190.out | refine below_set ?_ GE191.out) | exact HB.out)⟩⟩
    · replace c8 := Bool.eq_false_iff.mpr c8
      subst c8
      have H1 : (if (a0_0.size : Int) > 20000 then (spec_FeedReader.j0 k a1 y192 true a0_0 false) else (if (a1.size : Int) > 20000 then (spec_FeedReader.j0 k a1 y192 true a0_0 false) else (spec_FeedReader.j0 k a1 y192 (decide ((wrap64 ((a0_0.size : Int) + (a1.size : Int))) > 20000)) a0_0 false))) = some (r1, r2, r3) := by rw [if_neg (show ¬ (false = true) by decide)] at H; exact H
      clear H
      have H := H1
      clear H1
      by_cases c11 : (a0_0.size : Int) > 20000
      · rw [if_pos c11] at H
        have c11b0 : decide (20000 < (a0_0.size : Int)) = true := decide_eq_true c11
        have c11b1 : decide (20000 < a0_0.size) = true := decide_eq_true (by omega)
        clear c11
        (first | rw [c11b0] | (simp only [i64_w, i32_w]; rw [c11b0]) | skip)
        have H' := Aside0.mk H
        clear H
        have hnb12 := NB190_191.out
        have hnc12 := NB191_190.out
        have hcz13_0 : w6.cell? ⟨gb190, 0, none⟩ = some (.string a0_0) := (blk_cell BK190.out 0).trans rfl
        have hcz13_1 : w6.cell? ⟨gb190, 1, none⟩ = some (.bool false) := (blk_cell BK190.out 1).trans rfl
        have hfz13_0 := blk_frozen BK190.out 0
        have hfz13_1 := blk_frozen BK190.out 1
        go_wp2
        go_meet
        case rel => exact ⟨_, (true), (by first | rfl | (simp; done) | (simp [*]; done)), H', ⟨by first | omega | exact Nat.le_refl _⟩, ⟨by (with_reducible repeat (first | apply Kd.R_alloc | apply Kd.R_drewN | apply Kd.R_drew)); exact HO194.out⟩, ⟨by (with_reducible repeat (first | refine blk_drewN ?_ _ | refine blk_drew ?_ | refine blk_alloc ?_ _)); exact BK190.out⟩, ⟨by (with_reducible repeat (first | refine blk_drewN ?_ _ | refine blk_drew ?_ | refine blk_alloc ?_ _)); exact BK191.out⟩, ⟨by repeat (first | (with_reducible first | exact HB.out | apply below_alloc | apply pw_below_drewN | apply below_drew1 | refine below_set ?_ GE190.out | refine below_set ?_ GE191.out) | exact HB.out)⟩⟩
      · rw [if_neg c11] at H
        have c11b0 : decide (20000 < (a0_0.size : Int)) = false := decide_eq_false c11
        have c11b1 : decide (20000 < a0_0.size) = false := decide_eq_false (by omega)
        clear c11
        (first | rw [c11b0] | (simp only [i64_w, i32_w]; rw [c11b0]) | skip)
        by_cases c14 : (a1.size : Int) > 20000
        · rw [if_pos c14] at H
          have c14b0 : decide (20000 < (a1.size : Int)) = true := decide_eq_true c14
          have c14b1 : decide (20000 < a1.size) = true := decide_eq_true (by omega)
          clear c14
          have H' := Aside0.mk H
          clear H
          have hnb15 := NB190_191.out
          have hnc15 := NB191_190.out
          have hcz16_0 : w6.cell? ⟨gb190, 0, none⟩ = some (.string a0_0) := (blk_cell BK190.out 0).trans rfl
          have hcz16_1 : w6.cell? ⟨gb190, 1, none⟩ = some (.bool false) := (blk_cell BK190.out 1).trans rfl
          have hfz16_0 := blk_frozen BK190.out 0
          have hfz16_1 := blk_frozen BK190.out 1
          go_wp2
          go_meet
          case rel => exact ⟨_, (true), (by first | rfl | (simp; done) | (simp [*]; done)), H', ⟨by first | omega | exact Nat.le_refl _⟩, ⟨by (with_reducible repeat (first | apply Kd.R_alloc | apply Kd.R_drewN | apply Kd.R_drew)); exact HO194.out⟩, ⟨by (with_reducible repeat (first | refine blk_drewN ?_ _ | refine blk_drew ?_ | refine blk_alloc ?_ _)); exact BK190.out⟩, ⟨by (with_reducible repeat (first | refine blk_drewN ?_ _ | refine blk_drew ?_ | refine blk_alloc ?_ _)); exact BK191.out⟩, ⟨by repeat (first | (with_reducible first | exact HB.out | apply below_alloc | apply pw_below_drewN | apply below_drew1 | refine below_set ?_ GE190.out | refine below_set ?_ GE191.out) | exact HB.out)⟩⟩
        · rw [if_neg c14] at H
          have c14b0 : decide (20000 < (a1.size : Int)) = false := decide_eq_false c14
          have c14b1 : decide (20000 < a1.size) = false := decide_eq_false (by omega)
          clear c14
          have H' := Aside0.mk H
          clear H
          have hnb17 := NB190_191.out
          have hnc17 := NB191_190.out
          have hcz18_0 : w6.cell? ⟨gb190, 0, none⟩ = some (.string a0_0) := (blk_cell BK190.out 0).trans rfl
          have hcz18_1 : w6.cell? ⟨gb190, 1, none⟩ = some (.bool false) := (blk_cell BK190.out 1).trans rfl
          have hfz18_0 := blk_frozen BK190.out 0
          have hfz18_1 := blk_frozen BK190.out 1
          go_wp2
          go_meet
          case rel => exact ⟨_, (decide ((wrap64 ((a0_0.size : Int) + (a1.size : Int))) > 20000)), (by first | rfl | (simp; done) | (simp [*]; done)), H', ⟨by first | omega | exact Nat.le_refl _⟩, ⟨by (with_reducible repeat (first | apply Kd.R_alloc | apply Kd.R_drewN | apply Kd.R_drew)); exact HO194.out⟩, ⟨by (with_reducible repeat (first | refine blk_drewN ?_ _ | refine blk_drew ?_ | refine blk_alloc ?_ _)); exact BK190.out⟩, ⟨by (with_reducible repeat (first | refine blk_drewN ?_ _ | refine blk_drew ?_ | refine blk_alloc ?_ _)); exact BK191.out⟩, ⟨by repeat (first | (with_reducible first | exact HB.out | apply below_alloc | apply pw_below_drewN | apply below_drew1 | refine below_set ?_ GE190.out | refine below_set ?_ GE191.out) | exact HB.out)⟩⟩
  case rest =>
    clear HC3
    try clear c1
    try clear p2
    try clear c3
    try clear p6
    try clear c8
    try clear c9
    try clear c11
    try clear c11b0
    try clear c11b1
    try clear c12
    try clear c14
    try clear c14b0
    try clear c14b1
    try clear c15
    try clear c17
    try clear hcz10_0
    try clear hcz10_1
    try clear hcz13_0
    try clear hcz13_1
    try clear hcz16_0
    try clear hcz16_1
    try clear hcz18_0
    try clear hcz18_1
    try clear hfz10_0
    try clear hfz10_1
    try clear hfz13_0
    try clear hfz13_1
    try clear hfz16_0
    try clear hfz16_1
    try clear hfz18_0
    try clear hfz18_1
    obtain ⟨kq, x35_2, rfl, HA, HJ2, HO_6, BK190, BK191, HB⟩ := hcut
    cases kq with
    | zero => exact absurd HA.out (by simp [spec_FeedReader.j0])
    | succ kj2 =>
      have H := HA.out
      clear HA
      simp only [spec_FeedReader.j0] at H
      by_cases c19 : x35_2 = true
      · subst c19
        have H1 : (some (a0_0, a0_1, y192)) = some (r1, r2, r3) := by rw [if_pos rfl] at H; exact H
        clear H
        have H := H1
        clear H1
        simp only [Option.some.injEq, Prod.mk.injEq] at H
        obtain ⟨rfl, rfl, rfl⟩ := H
        have hnb20 := NB190_191.out
        have hnc20 := NB191_190.out
        have hcz21_0 : wc.cell? ⟨gb190, 0, none⟩ = some (.string a0_0) := (blk_cell BK190.out 0).trans rfl
        have hcz21_1 : wc.cell? ⟨gb190, 1, none⟩ = some (.bool a0_1) := (blk_cell BK190.out 1).trans rfl
        have hfz21_0 := blk_frozen BK190.out 0
        have hfz21_1 := blk_frozen BK190.out 1
        have hcz22_0 : wc.cell? ⟨gb191, 0, none⟩ = some (.string (⟨#[]⟩ : ByteArray)) := (blk_cell BK191.out 0).trans rfl
        have hcz22_1 : wc.cell? ⟨gb191, 1, none⟩ = some (.bool false) := (blk_cell BK191.out 1).trans rfl
        have hfz22_0 := blk_frozen BK191.out 0
        have hfz22_1 := blk_frozen BK191.out 1
        go_wp2
        refine bodyPost_ret (results_ct rfl _ _ gb191 48 #[.string a0_0, .bool a0_1] (0, 0) _ rfl (by (with_reducible repeat (first | refine blk_drewN ?_ _ | refine blk_drew ?_ | refine blk_alloc ?_ _)); refine blk_put (cs := #[.string a0_0, .bool false]) ?_ 1 _ rfl; (with_reducible repeat (first | refine blk_drewN ?_ _ | refine blk_drew ?_ | refine blk_alloc ?_ _)); refine blk_put (cs := #[.string (⟨#[]⟩ : ByteArray), .bool false]) ?_ 0 _ rfl; (with_reducible repeat (first | refine blk_drewN ?_ _ | refine blk_drew ?_ | refine blk_alloc ?_ _)); exact BK191.out) Try.underlying48 rfl (by kernel_rfl)) rfl ?_
        exact ⟨_, by first | rfl | (simp [errW_none, errW_some] <;> rfl) | (simp [*, errW_none, errW_some] <;> rfl), by (with_reducible repeat (first | apply Kd.R_alloc | apply Kd.R_drewN | apply Kd.R_drew)); exact Kd.R_mono (Kd.R_far (p := ⟨gb191, 1, none⟩) (Kd.R_far (p := ⟨gb191, 0, none⟩) (Kd.R_types HO_6.out BK191.out (by decide)) (fun _ hk => hk.2) (.string a0_0)) (fun _ hk => hk.2) (.bool a0_1)) (fun _ hk => trivial), by repeat (first | (with_reducible first | exact HB.out | apply below_alloc | apply pw_below_drewN | apply below_drew1 | refine below_set ?_ GE190.out | refine below_set ?_ GE191.out) | exact HB.out)⟩
      · replace c19 := Bool.eq_false_iff.mpr c19
        subst c19
        have H1 : (if a0_0.size + a1.size ≤ 9223372036854775807 then (spec_FeedReader.l0 kj2 y192 (a0_0 ++ a1) 0) else (none)) = some (r1, r2, r3) := by rw [if_neg (show ¬ (false = true) by decide)] at H; exact H
        clear H
        have H := H1
        clear H1
        by_cases c23 : a0_0.size + a1.size ≤ 9223372036854775807
        · rw [if_pos c23] at H
          have c23b0 := eq_true c23
          have c23b1 : decide (a0_0.size + a1.size ≤ 9223372036854775807) = true := decide_eq_true c23
          try have c23b2 : (9223372036854775807 < a0_0.size + a1.size) = False := eq_false (Nat.not_lt.2 c23)
          have H' := Aside0.mk H
          clear H
          have hnb24 := NB190_191.out
          have hnc24 := NB191_190.out
          have hcz25_0 : wc.cell? ⟨gb190, 0, none⟩ = some (.string a0_0) := (blk_cell BK190.out 0).trans rfl
          have hcz25_1 : wc.cell? ⟨gb190, 1, none⟩ = some (.bool a0_1) := (blk_cell BK190.out 1).trans rfl
          have hfz25_0 := blk_frozen BK190.out 0
          have hfz25_1 := blk_frozen BK190.out 1
          go_wp2
          generalize (a0_0 ++ a1) = zs26 at H' ⊢
          go_loopg [6, 8] kj2 (fun kq v6 v8 w' => ∃ (x6_2 : List ByteArray) (x8_2 : Int) (x192000_2 : ByteArray) (x192001_2 : Bool), v8 = .int .i64 x8_2 ∧ Aside0 (spec_FeedReader.l0 kq x6_2 zs26 x8_2 = some (r1, r2, r3)) ∧ Aside0 (kq ≤ kj2) ∧ Aside0 (Kd.R Kd.string 9 w' w.heap.size (fun _ => True) v6 x6_2) ∧ Aside0 (w'.heap[gb190]? = some (.cells #[.string a0_0, .bool a0_1] 48 (0, 0))) ∧ Aside0 (w'.heap[gb191]? = some (.cells #[.string x192000_2, .bool x192001_2] 48 (0, 0))) ∧ Aside0 (Below w.heap.size w w'))
          case atStart => exact ⟨(y192), (0), ((⟨#[]⟩ : ByteArray)), (false), (by first | rfl | (simp; done) | (simp [*]; done)), H', ⟨Nat.le_refl _⟩, ⟨by (with_reducible repeat (first | apply Kd.R_alloc | apply Kd.R_drewN | apply Kd.R_drew)); exact HO_6.out⟩, ⟨by (with_reducible repeat (first | refine blk_drewN ?_ _ | refine blk_drew ?_ | refine blk_alloc ?_ _)); exact BK190.out⟩, ⟨by (with_reducible repeat (first | refine blk_drewN ?_ _ | refine blk_drew ?_ | refine blk_alloc ?_ _)); exact BK191.out⟩, ⟨by repeat (first | (with_reducible first | exact HB.out | apply below_alloc | apply pw_below_drewN | apply below_drew1 | refine below_set ?_ GE190.out | refine below_set ?_ GE191.out) | exact HB.out)⟩⟩
          case round =>
            clear H'
            try clear c1
            try clear c2
            try clear p2
            try clear c3
            try clear p6
            try clear c8
            try clear c9
            try clear c11
            try clear c11b0
            try clear c11b1
            try clear c12
            try clear c14
            try clear c14b0
            try clear c14b1
            try clear c15
            try clear c17
            try clear c19
            try clear c20
            try clear c23
            try clear c23b0
            try clear c23b1
            try clear c23b2
            try clear c24
            try clear hcz10_0
            try clear hcz10_1
            try clear hcz13_0
            try clear hcz13_1
            try clear hcz16_0
            try clear hcz16_1
            try clear hcz18_0
            try clear hcz18_1
            try clear hcz21_0
            try clear hcz21_1
            try clear hcz22_0
            try clear hcz22_1
            try clear hcz25_0
            try clear hcz25_1
            try clear hfz10_0
            try clear hfz10_1
            try clear hfz13_0
            try clear hfz13_1
            try clear hfz16_0
            try clear hfz16_1
            try clear hfz18_0
            try clear hfz18_1
            try clear hfz21_0
            try clear hfz21_1
            try clear hfz22_0
            try clear hfz22_1
            try clear hfz25_0
            try clear hfz25_1
            try clear p2
            try clear p6
            obtain ⟨x6_2, x8_2, x192000_2, x192001_2, rfl, HA, HK2, HO_6, BK190, BK191, HB⟩ := hrel
            cases gk with
            | zero => exact absurd HA.out (by simp [spec_FeedReader.l0])
            | succ k2 =>
              have H := HA.out
              clear HA
              simp only [spec_FeedReader.l0] at H
              by_cases c27 : x8_2 < (zs26.size : Int)
              · rw [if_pos c27] at H
                have c27b0 : decide (x8_2 < (zs26.size : Int)) = true := decide_eq_true c27
                clear c27
                by_cases c28 : 0 ≤ x8_2
                · rw [if_pos c28] at H
                  have c28b0 : decide (0 ≤ x8_2) = true := decide_eq_true c28
                  clear c28
                  by_cases c30 : (wrap64 (bt zs26 x8_2)) > 60
                  · rw [if_pos c30] at H
                    have c30b0 : decide (60 < (wrap64 (bt zs26 x8_2))) = true := decide_eq_true c30
                    clear c30
                    simp only [Option.some.injEq, Prod.mk.injEq] at H
                    obtain ⟨rfl, rfl, rfl⟩ := H
                    have p29 : 0 ≤ (x8_2 : Int) := of_decide_eq_true (by first | (with_reducible assumption) | assumption)
                    have q29 : x8_2 < (zs26.size : Int) := of_decide_eq_true (by first | (with_reducible assumption) | assumption)
                    have hx29 := bt_at zs26 x8_2
                    replace p29 := eq_true p29
                    replace q29 := eq_true q29
                    have hnb31 := NB191_190.out
                    have hnc31 := NB190_191.out
                    have hcz32_0 : wr.cell? ⟨gb191, 0, none⟩ = some (.string x192000_2) := (blk_cell BK191.out 0).trans rfl
                    have hcz32_1 : wr.cell? ⟨gb191, 1, none⟩ = some (.bool x192001_2) := (blk_cell BK191.out 1).trans rfl
                    have hfz32_0 := blk_frozen BK191.out 0
                    have hfz32_1 := blk_frozen BK191.out 1
                    go_wp2
                    refine bodyPost_ret (results_ct rfl _ _ gb191 48 #[.string (⟨#[]⟩ : ByteArray), .bool true] (0, 0) _ rfl (by (with_reducible repeat (first | refine blk_drewN ?_ _ | refine blk_drew ?_ | refine blk_alloc ?_ _)); refine blk_put (cs := #[.string (⟨#[]⟩ : ByteArray), .bool x192001_2]) ?_ 1 _ rfl; (with_reducible repeat (first | refine blk_drewN ?_ _ | refine blk_drew ?_ | refine blk_alloc ?_ _)); refine blk_put (cs := #[.string x192000_2, .bool x192001_2]) ?_ 0 _ rfl; (with_reducible repeat (first | refine blk_drewN ?_ _ | refine blk_drew ?_ | refine blk_alloc ?_ _)); exact BK191.out) Try.underlying48 rfl (by kernel_rfl)) rfl ?_
                    exact ⟨_, by first | rfl | (simp [errW_none, errW_some] <;> rfl) | (simp [*, errW_none, errW_some] <;> rfl), by (with_reducible repeat (first | apply Kd.R_alloc | apply Kd.R_drewN | apply Kd.R_drew)); exact Kd.R_mono (Kd.R_far (p := ⟨gb191, 1, none⟩) (Kd.R_far (p := ⟨gb191, 0, none⟩) (Kd.R_types HO_6.out BK191.out (by decide)) (fun _ hk => hk.2) (.string (⟨#[]⟩ : ByteArray))) (fun _ hk => hk.2) (.bool true)) (fun _ hk => trivial), by repeat (first | (with_reducible first | exact HB.out | apply below_alloc | apply pw_below_drewN | apply below_drew1 | refine below_set ?_ GE190.out | refine below_set ?_ GE191.out) | exact HB.out)⟩
                  · rw [if_neg c30] at H
                    have c30b0 : decide (60 < (wrap64 (bt zs26 x8_2))) = false := decide_eq_false c30
                    clear c30
                    by_cases c33 : (wrap64 ((zs26.size : Int) - x8_2)) < (wrap64 ((wrap64 (bt zs26 x8_2)) + 3))
                    · rw [if_pos c33] at H
                      have c33b0 : decide ((wrap64 ((zs26.size : Int) - x8_2)) < (wrap64 ((wrap64 (bt zs26 x8_2)) + 3))) = true := decide_eq_true c33
                      clear c33
                      have c34b0 := eq_true (of_decide_eq_true (by first | (with_reducible assumption) | assumption) : 0 ≤ x8_2)
                      by_cases c35 : x8_2 ≤ (zs26.size : Int)
                      · rw [if_pos c35] at H
                        have c35b0 := eq_true c35
                        have c35b1 : decide (x8_2 ≤ (zs26.size : Int)) = true := decide_eq_true c35
                        clear c35
                        simp only [Option.some.injEq, Prod.mk.injEq] at H
                        obtain ⟨rfl, rfl, rfl⟩ := H
                        have p29 : 0 ≤ (x8_2 : Int) := of_decide_eq_true (by first | (with_reducible assumption) | assumption)
                        have q29 : x8_2 < (zs26.size : Int) := of_decide_eq_true (by first | (with_reducible assumption) | assumption)
                        have hx29 := bt_at zs26 x8_2
                        replace p29 := eq_true p29
                        replace q29 := eq_true q29
                        have hnb36 := NB191_190.out
                        have hnc36 := NB190_191.out
                        have hcz37_0 : wr.cell? ⟨gb191, 0, none⟩ = some (.string x192000_2) := (blk_cell BK191.out 0).trans rfl
                        have hcz37_1 : wr.cell? ⟨gb191, 1, none⟩ = some (.bool x192001_2) := (blk_cell BK191.out 1).trans rfl
                        have hfz37_0 := blk_frozen BK191.out 0
                        have hfz37_1 := blk_frozen BK191.out 1
                        go_wp2
                        refine bodyPost_ret (results_ct rfl _ _ gb191 48 #[.string (zs26.extract (x8_2 : Int).toNat zs26.size), .bool false] (0, 0) _ rfl (by (with_reducible repeat (first | refine blk_drewN ?_ _ | refine blk_drew ?_ | refine blk_alloc ?_ _)); refine blk_put (cs := #[.string (zs26.extract (x8_2 : Int).toNat zs26.size), .bool x192001_2]) ?_ 1 _ rfl; (with_reducible repeat (first | refine blk_drewN ?_ _ | refine blk_drew ?_ | refine blk_alloc ?_ _)); refine blk_put (cs := #[.string x192000_2, .bool x192001_2]) ?_ 0 _ rfl; (with_reducible repeat (first | refine blk_drewN ?_ _ | refine blk_drew ?_ | refine blk_alloc ?_ _)); exact BK191.out) Try.underlying48 rfl (by kernel_rfl)) rfl ?_
                        exact ⟨_, by first | rfl | (simp [errW_none, errW_some] <;> rfl) | (simp [*, errW_none, errW_some] <;> rfl), by (with_reducible repeat (first | apply Kd.R_alloc | apply Kd.R_drewN | apply Kd.R_drew)); exact Kd.R_mono (Kd.R_far (p := ⟨gb191, 1, none⟩) (Kd.R_far (p := ⟨gb191, 0, none⟩) (Kd.R_types HO_6.out BK191.out (by decide)) (fun _ hk => hk.2) (.string (zs26.extract (x8_2 : Int).toNat zs26.size))) (fun _ hk => hk.2) (.bool false)) (fun _ hk => trivial), by repeat (first | (with_reducible first | exact HB.out | apply below_alloc | apply pw_below_drewN | apply below_drew1 | refine below_set ?_ GE190.out | refine below_set ?_ GE191.out) | exact HB.out)⟩
                      · rw [if_neg c35] at H
                        exact absurd H (by simp)
                    · rw [if_neg c33] at H
                      have c33b0 : decide ((wrap64 ((zs26.size : Int) - x8_2)) < (wrap64 ((wrap64 (bt zs26 x8_2)) + 3))) = false := decide_eq_false c33
                      clear c33
                      obtain ⟨ji38, hji38⟩ : ∃ j_ : Int, (wrap64 (x8_2 + 3)) = j_ := ⟨_, rfl⟩
                      replace H : (if 0 ≤ (ji38) then (if (ji38) ≤ (wrap64 ((ji38) + (wrap64 (bt zs26 x8_2)))) then (if (wrap64 ((ji38) + (wrap64 (bt zs26 x8_2)))) ≤ (zs26.size : Int) then ((spec_FrameOf.f k2 (zs26.extract ((ji38) : Int).toNat ((wrap64 ((ji38) + (wrap64 (bt zs26 x8_2)))) : Int).toNat)).bind fun bt195 => (if x8_2 ≤ (wrap64 ((ji38) + (wrap64 (bt zs26 x8_2)))) then (if bt195.1.toList = (zs26.extract (x8_2 : Int).toNat ((wrap64 ((ji38) + (wrap64 (bt zs26 x8_2)))) : Int).toNat).toList then (if x6_2.length < 8796093022208 then (spec_FeedReader.l0 k2 (x6_2 ++ [zs26.extract ((ji38) : Int).toNat ((wrap64 ((ji38) + (wrap64 (bt zs26 x8_2)))) : Int).toNat]) zs26 (wrap64 ((wrap64 (x8_2 + (wrap64 (bt zs26 x8_2)))) + 3))) else (none)) else (some ((⟨#[]⟩ : ByteArray), true, x6_2))) else (none))) else (none)) else (none)) else (none)) = some (r1, r2, r3) := by first | (rw [hji38] at H; exact H) | (simp only [hji38] at H ⊢; exact H)
                      have hji38w : (IntKind.i64.wrap (x8_2 + 3)) = ji38 := (i64_w _).trans hji38
                      by_cases c39 : 0 ≤ (ji38)
                      · rw [if_pos c39] at H
                        have c39b0 := eq_true c39
                        have c39b1 : decide (0 ≤ (ji38)) = true := decide_eq_true c39
                        clear c39
                        by_cases c40 : (ji38) ≤ (wrap64 ((ji38) + (wrap64 (bt zs26 x8_2))))
                        · rw [if_pos c40] at H
                          have c40b0 := eq_true c40
                          have c40b1 : decide ((ji38) ≤ (wrap64 ((ji38) + (wrap64 (bt zs26 x8_2))))) = true := decide_eq_true c40
                          by_cases c41 : (wrap64 ((ji38) + (wrap64 (bt zs26 x8_2)))) ≤ (zs26.size : Int)
                          · rw [if_pos c41] at H
                            have c41b0 := eq_true c41
                            have c41b1 : decide ((wrap64 ((ji38) + (wrap64 (bt zs26 x8_2)))) ≤ (zs26.size : Int)) = true := decide_eq_true c41
                            replace H := Option.bind_eq_some_iff.mp H
                            obtain ⟨⟨t195, t196⟩, A420, H⟩ := H
                            replace H : (if x8_2 ≤ (wrap64 ((ji38) + (wrap64 (bt zs26 x8_2)))) then (if t195.toList = (zs26.extract (x8_2 : Int).toNat ((wrap64 ((ji38) + (wrap64 (bt zs26 x8_2)))) : Int).toNat).toList then (if x6_2.length < 8796093022208 then (spec_FeedReader.l0 k2 (x6_2 ++ [zs26.extract ((ji38) : Int).toNat ((wrap64 ((ji38) + (wrap64 (bt zs26 x8_2)))) : Int).toNat]) zs26 (wrap64 ((wrap64 (x8_2 + (wrap64 (bt zs26 x8_2)))) + 3))) else (none)) else (some ((⟨#[]⟩ : ByteArray), true, x6_2))) else (none)) = some (r1, r2, r3) := H
                            have A42 := Aside0.mk A420
                            clear A420
                            have c43b0 := eq_true (of_decide_eq_true (by first | (with_reducible assumption) | assumption) : 0 ≤ x8_2)
                            by_cases c44 : x8_2 ≤ (wrap64 ((ji38) + (wrap64 (bt zs26 x8_2))))
                            · rw [if_pos c44] at H
                              have c44b0 := eq_true c44
                              have c44b1 : decide (x8_2 ≤ (wrap64 ((ji38) + (wrap64 (bt zs26 x8_2))))) = true := decide_eq_true c44
                              have c45b0 := eq_true (of_decide_eq_true (by first | (with_reducible assumption) | assumption) : (wrap64 ((ji38) + (wrap64 (bt zs26 x8_2)))) ≤ (zs26.size : Int))
                              by_cases c46 : t195.toList = (zs26.extract (x8_2 : Int).toNat ((wrap64 ((ji38) + (wrap64 (bt zs26 x8_2)))) : Int).toNat).toList
                              · rw [if_pos c46] at H
                                have c46b0 : (t195.toList == (zs26.extract (x8_2 : Int).toNat ((wrap64 ((ji38) + (wrap64 (bt zs26 x8_2)))) : Int).toNat).toList) = true := beq_iff_eq.mpr c46
                                have c46b1 : (t195.toList != (zs26.extract (x8_2 : Int).toNat ((wrap64 ((ji38) + (wrap64 (bt zs26 x8_2)))) : Int).toNat).toList) = false := bne_eq_false_iff_eq.mpr c46
                                clear c46
                                by_cases c47 : x6_2.length < 8796093022208
                                · rw [if_pos c47] at H
                                  have LMc47 := Aside0.mk c47
                                  clear c47
                                  obtain ⟨y197, hy197⟩ : ∃ y_ : List ByteArray, y_ = (x6_2 ++ [zs26.extract ((ji38) : Int).toNat ((wrap64 ((ji38) + (wrap64 (bt zs26 x8_2)))) : Int).toNat]) := ⟨_, rfl⟩
                                  replace H : (spec_FeedReader.l0 k2 y197 zs26 (wrap64 ((wrap64 (x8_2 + (wrap64 (bt zs26 x8_2)))) + 3))) = some (r1, r2, r3) := by first | (rw [hy197]; with_reducible exact H) | (have H2_ := (Option.bind_some _ _).symm.trans H; rw [hy197]; with_reducible exact H2_) | (have H2_ := (Option.bind_some _ _).symm.trans H; with_reducible exact H2_) | with_reducible exact H | (rw [hy197]; exact H) | exact H
                                  have Ny197 := Aside0.mk hy197
                                  clear hy197
                                  have H' := Aside0.mk H
                                  clear H
                                  have p29 : 0 ≤ (x8_2 : Int) := of_decide_eq_true (by first | (with_reducible assumption) | assumption)
                                  have q29 : x8_2 < (zs26.size : Int) := of_decide_eq_true (by first | (with_reducible assumption) | assumption)
                                  have hx29 := bt_at zs26 x8_2
                                  replace p29 := eq_true p29
                                  replace q29 := eq_true q29
                                  go_wp2_with (first | ((with_reducible refine gate_callee (f := 59) rfl ?_); refine goesL_ (some 76) rfl rfl Try.func59 (by kernel_rfl) rfl #[.string (zs26.extract ((ji38) : Int).toNat ((wrap64 ((ji38) + (wrap64 (bt zs26 x8_2)))) : Int).toNat)] rfl (by (try simp only [List.map_toArray, List.map_cons, List.map_nil]); first | done | (simp only [hji38]; rfl) | rfl | (simp only [List.length_drop, List.length_take]; rfl)) ?_; (with_reducible refine (spec_FrameOf.calls k2 (zs26.extract ((ji38) : Int).toNat ((wrap64 ((ji38) + (wrap64 (bt zs26 x8_2)))) : Int).toNat) t195 t196 _ A42.out).mono ?_); rintro e w48 ⟨rfl, hb⟩; refine ⟨_, rfl, ?_⟩; have n0_ := Aside0.mk (Kd.R_below (by (with_reducible repeat (first | apply Kd.R_alloc | apply Kd.R_drewN | apply Kd.R_drew)); exact HO_6.out) hb); have n1_ := Aside0.mk (blk_below (g := gb190) (o := .cells #[.string a0_0, .bool a0_1] 48 (0, 0)) (by (with_reducible repeat (first | refine blk_drewN ?_ _ | refine blk_drew ?_ | refine blk_alloc ?_ _)); exact BK190.out) hb); have n2_ := Aside0.mk (blk_below (g := gb191) (o := .cells #[.string x192000_2, .bool x192001_2] 48 (0, 0)) (by (with_reducible repeat (first | refine blk_drewN ?_ _ | refine blk_drew ?_ | refine blk_alloc ?_ _)); exact BK191.out) hb); have n3_ := Aside0.mk (below_step (by repeat (first | (with_reducible first | exact HB.out | apply below_alloc | apply pw_below_drewN | apply below_drew1 | refine below_set ?_ GE190.out | refine below_set ?_ GE191.out) | exact HB.out)) hb); clear HO_6; clear BK190; clear BK191; clear HB; have HO_6 := n0_; have BK190 := n1_; have BK191 := n2_; have HB := n3_; clear n0_ n1_ n2_ n3_; (try clear hb); (try clear hb2); (try clear hk); (try clear hi)) | ((with_reducible refine gate_builtin (b := .append) (xs := #[.tmp 90, .tmp 92]) rfl ?_); (try (refine gate_guard (by rfl) ?_; dsimp only)); at_builtin; refine Kd.R_append Kd.string (w0 := w) w.heap.size rfl (.tmp 90) (.tmp 92) 22 9 (.string ⟨#[]⟩) 16 rfl Try.underlying22 info9 rfl (by decide) (by omega) u6 x6_2 (zs26.extract ((ji38) : Int).toNat ((wrap64 ((ji38) + (wrap64 (bt zs26 x8_2)))) : Int).toNat) [.string (zs26.extract ((ji38) : Int).toNat ((wrap64 ((ji38) + (wrap64 (bt zs26 x8_2)))) : Int).toNat)] (fun _ => True) (fun _ => False) rfl rfl ?aP (fun _ hk => hk.elim) ?aF ?aO ?aB ?aS ?aL ?_; (case aP => exact rfl); (case aB => exact (by repeat (first | (with_reducible first | exact HB.out | apply below_alloc | apply pw_below_drewN | apply below_drew1 | refine below_set ?_ GE190.out | refine below_set ?_ GE191.out) | exact HB.out))); (case aF => exact (fun _ _ => trivial)); (case aO => exact (by (with_reducible repeat (first | apply Kd.R_alloc | apply Kd.R_drewN | apply Kd.R_drew)); exact HO_6.out)); (case aS => exact (below_size (by repeat (first | (with_reducible first | exact HB.out | apply below_alloc | apply pw_below_drewN | apply below_drew1 | refine below_set ?_ GE190.out | refine below_set ?_ GE191.out) | exact HB.out)))); (case aL => have := LMc47.out; omega); intro v198 w49 ho hb hg hat; rw [← Ny197.out] at ho; have n0_ := Aside0.mk (blk_grown (g := gb190) (o := .cells #[.string a0_0, .bool a0_1] 48 (0, 0)) (by (with_reducible repeat (first | refine blk_drewN ?_ _ | refine blk_drew ?_ | refine blk_alloc ?_ _)); exact BK190.out) hg (Kd.R_ne HO_6.out BK190.out (by decide))); have n1_ := Aside0.mk (blk_grown (g := gb191) (o := .cells #[.string x192000_2, .bool x192001_2] 48 (0, 0)) (by (with_reducible repeat (first | refine blk_drewN ?_ _ | refine blk_drew ?_ | refine blk_alloc ?_ _)); exact BK191.out) hg (Kd.R_ne HO_6.out BK191.out (by decide))); have n2_ := Aside0.mk (hb); have n3_ := Aside0.mk (ho); clear BK190; clear BK191; clear HB; clear HO_6; have BK190 := n0_; have BK191 := n1_; have HB := n2_; have HO199 := n3_; clear n0_ n1_ n2_ n3_; clear ho hb hg hat))
                                  go_roundg k2
                                  case measure => have := HJ2.out; have := HK2.out; omega
                                  case rel => exact ⟨(y197), (wrap64 ((wrap64 (x8_2 + (wrap64 (bt zs26 x8_2)))) + 3)), (x192000_2), (x192001_2), (by first | rfl | (simp; done) | (simp [*]; done)), H', ⟨by have := HJ2.out; have := HK2.out; omega⟩, ⟨by (with_reducible repeat (first | apply Kd.R_alloc | apply Kd.R_drewN | apply Kd.R_drew)); exact HO199.out⟩, ⟨by (with_reducible repeat (first | refine blk_drewN ?_ _ | refine blk_drew ?_ | refine blk_alloc ?_ _)); exact BK190.out⟩, ⟨by (with_reducible repeat (first | refine blk_drewN ?_ _ | refine blk_drew ?_ | refine blk_alloc ?_ _)); exact BK191.out⟩, ⟨by repeat (first | (with_reducible first | exact HB.out | apply below_alloc | apply pw_below_drewN | apply below_drew1 | refine below_set ?_ GE190.out | refine below_set ?_ GE191.out) | exact HB.out)⟩⟩
                                · rw [if_neg c47] at H
                                  exact absurd H (by simp)
                              · rw [if_neg c46] at H
                                have c46b0 : (t195.toList == (zs26.extract (x8_2 : Int).toNat ((wrap64 ((ji38) + (wrap64 (bt zs26 x8_2)))) : Int).toNat).toList) = false := beq_eq_false_iff_ne.mpr c46
                                have c46b1 : (t195.toList != (zs26.extract (x8_2 : Int).toNat ((wrap64 ((ji38) + (wrap64 (bt zs26 x8_2)))) : Int).toNat).toList) = true := bne_iff_ne.mpr c46
                                simp only [Option.some.injEq, Prod.mk.injEq] at H
                                obtain ⟨rfl, rfl, rfl⟩ := H
                                have p29 : 0 ≤ (x8_2 : Int) := of_decide_eq_true (by first | (with_reducible assumption) | assumption)
                                have q29 : x8_2 < (zs26.size : Int) := of_decide_eq_true (by first | (with_reducible assumption) | assumption)
                                have hx29 := bt_at zs26 x8_2
                                replace p29 := eq_true p29
                                replace q29 := eq_true q29
                                go_wp2_with (first | ((with_reducible refine gate_callee (f := 59) rfl ?_); refine goesL_ (some 76) rfl rfl Try.func59 (by kernel_rfl) rfl #[.string (zs26.extract ((ji38) : Int).toNat ((wrap64 ((ji38) + (wrap64 (bt zs26 x8_2)))) : Int).toNat)] rfl (by (try simp only [List.map_toArray, List.map_cons, List.map_nil]); first | done | (simp only [hji38]; rfl) | rfl | (simp only [List.length_drop, List.length_take]; rfl)) ?_; (with_reducible refine (spec_FrameOf.calls k2 (zs26.extract ((ji38) : Int).toNat ((wrap64 ((ji38) + (wrap64 (bt zs26 x8_2)))) : Int).toNat) t195 t196 _ A42.out).mono ?_); rintro e w50 ⟨rfl, hb⟩; refine ⟨_, rfl, ?_⟩; have n0_ := Aside0.mk (Kd.R_below (by (with_reducible repeat (first | apply Kd.R_alloc | apply Kd.R_drewN | apply Kd.R_drew)); exact HO_6.out) hb); have n1_ := Aside0.mk (blk_below (g := gb190) (o := .cells #[.string a0_0, .bool a0_1] 48 (0, 0)) (by (with_reducible repeat (first | refine blk_drewN ?_ _ | refine blk_drew ?_ | refine blk_alloc ?_ _)); exact BK190.out) hb); have n2_ := Aside0.mk (blk_below (g := gb191) (o := .cells #[.string x192000_2, .bool x192001_2] 48 (0, 0)) (by (with_reducible repeat (first | refine blk_drewN ?_ _ | refine blk_drew ?_ | refine blk_alloc ?_ _)); exact BK191.out) hb); have n3_ := Aside0.mk (below_step (by repeat (first | (with_reducible first | exact HB.out | apply below_alloc | apply pw_below_drewN | apply below_drew1 | refine below_set ?_ GE190.out | refine below_set ?_ GE191.out) | exact HB.out)) hb); clear HO_6; clear BK190; clear BK191; clear HB; have HO_6 := n0_; have BK190 := n1_; have BK191 := n2_; have HB := n3_; clear n0_ n1_ n2_ n3_; (try clear hb); (try clear hb2); (try clear hk); (try clear hi); have hnb51 := NB191_190.out; have hnc51 := NB190_191.out; have hcz52_0 : w50.cell? ⟨gb191, 0, none⟩ = some (.string x192000_2) := (blk_cell BK191.out 0).trans rfl; have hcz52_1 : w50.cell? ⟨gb191, 1, none⟩ = some (.bool x192001_2) := (blk_cell BK191.out 1).trans rfl; have hfz52_0 := blk_frozen BK191.out 0; have hfz52_1 := blk_frozen BK191.out 1))
                                refine bodyPost_ret (results_ct rfl _ _ gb191 48 #[.string (⟨#[]⟩ : ByteArray), .bool true] (0, 0) _ rfl (by (with_reducible repeat (first | refine blk_drewN ?_ _ | refine blk_drew ?_ | refine blk_alloc ?_ _)); refine blk_put (cs := #[.string (⟨#[]⟩ : ByteArray), .bool x192001_2]) ?_ 1 _ rfl; (with_reducible repeat (first | refine blk_drewN ?_ _ | refine blk_drew ?_ | refine blk_alloc ?_ _)); refine blk_put (cs := #[.string x192000_2, .bool x192001_2]) ?_ 0 _ rfl; (with_reducible repeat (first | refine blk_drewN ?_ _ | refine blk_drew ?_ | refine blk_alloc ?_ _)); exact BK191.out) Try.underlying48 rfl (by kernel_rfl)) rfl ?_
                                exact ⟨_, by first | rfl | (simp [errW_none, errW_some] <;> rfl) | (simp only [← hji38]; first | rfl | (simp [errW_none, errW_some] <;> rfl)) | (simp [*, errW_none, errW_some] <;> rfl), by (with_reducible repeat (first | apply Kd.R_alloc | apply Kd.R_drewN | apply Kd.R_drew)); exact Kd.R_mono (Kd.R_far (p := ⟨gb191, 1, none⟩) (Kd.R_far (p := ⟨gb191, 0, none⟩) (Kd.R_types HO_6.out BK191.out (by decide)) (fun _ hk => hk.2) (.string (⟨#[]⟩ : ByteArray))) (fun _ hk => hk.2) (.bool true)) (fun _ hk => trivial), by repeat (first | (with_reducible first | exact HB.out | apply below_alloc | apply pw_below_drewN | apply below_drew1 | refine below_set ?_ GE190.out | refine below_set ?_ GE191.out) | exact HB.out)⟩
                            · rw [if_neg c44] at H
                              exact absurd H (by simp)
                          · rw [if_neg c41] at H
                            exact absurd H (by simp)
                        · rw [if_neg c40] at H
                          exact absurd H (by simp)
                      · rw [if_neg c39] at H
                        exact absurd H (by simp)
                · rw [if_neg c28] at H
                  exact absurd H (by simp)
              · rw [if_neg c27] at H
                have c27b0 : decide (x8_2 < (zs26.size : Int)) = false := decide_eq_false c27
                clear c27
                simp only [Option.some.injEq, Prod.mk.injEq] at H
                obtain ⟨rfl, rfl, rfl⟩ := H
                have hnb53 := NB191_190.out
                have hnc53 := NB190_191.out
                have hcz54_0 : wr.cell? ⟨gb191, 0, none⟩ = some (.string x192000_2) := (blk_cell BK191.out 0).trans rfl
                have hcz54_1 : wr.cell? ⟨gb191, 1, none⟩ = some (.bool x192001_2) := (blk_cell BK191.out 1).trans rfl
                have hfz54_0 := blk_frozen BK191.out 0
                have hfz54_1 := blk_frozen BK191.out 1
                go_wp2
                refine bodyPost_ret (results_ct rfl _ _ gb191 48 #[.string (⟨#[]⟩ : ByteArray), .bool false] (0, 0) _ rfl (by (with_reducible repeat (first | refine blk_drewN ?_ _ | refine blk_drew ?_ | refine blk_alloc ?_ _)); refine blk_put (cs := #[.string (⟨#[]⟩ : ByteArray), .bool x192001_2]) ?_ 1 _ rfl; (with_reducible repeat (first | refine blk_drewN ?_ _ | refine blk_drew ?_ | refine blk_alloc ?_ _)); refine blk_put (cs := #[.string x192000_2, .bool x192001_2]) ?_ 0 _ rfl; (with_reducible repeat (first | refine blk_drewN ?_ _ | refine blk_drew ?_ | refine blk_alloc ?_ _)); exact BK191.out) Try.underlying48 rfl (by kernel_rfl)) rfl ?_
                exact ⟨_, by first | rfl | (simp [errW_none, errW_some] <;> rfl) | (simp [*, errW_none, errW_some] <;> rfl), by (with_reducible repeat (first | apply Kd.R_alloc | apply Kd.R_drewN | apply Kd.R_drew)); exact Kd.R_mono (Kd.R_far (p := ⟨gb191, 1, none⟩) (Kd.R_far (p := ⟨gb191, 0, none⟩) (Kd.R_types HO_6.out BK191.out (by decide)) (fun _ hk => hk.2) (.string (⟨#[]⟩ : ByteArray))) (fun _ hk => hk.2) (.bool false)) (fun _ hk => trivial), by repeat (first | (with_reducible first | exact HB.out | apply below_alloc | apply pw_below_drewN | apply below_drew1 | refine below_set ?_ GE190.out | refine below_set ?_ GE191.out) | exact HB.out)⟩
        · rw [if_neg c23] at H
          exact absurd H (by simp)

end Go.Proofs.Ytfakkehopmihoaa.PFnTorn
