-- Written by a program out of the translation, for this claim.
import Derived.Test.YtokoihmjcfhemaaPFnExactSpreadx0
namespace Go.Proofs.Ytokoihmjcfhemaa.PFnExactSpread
open Go.RowKit Go.Proofs.YtokoihmjcfhemaaW.PrintWords Go.Proofs.YtokoihmjcfhemaaW.PrintLast Go.Proofs.YtokoihmjcfhemaaW.PrintMore
attribute [local go_sem] max2_int min2_int max_two min_two max_three min_three max_four min_four   -- for this text's walks alone
set_option linter.unusedVariables false
set_option linter.unusedSimpArgs false

/-! ### impl_isLost: function 46, by hand -/
def impl_isLost.f (l0 : List (List Int)) (a1 : Int) (a2 : Int) : Option Bool := if l0.length ≤ 2000000 then some (l0.any (fun p => decide (p = [a1, a2]))) else none
set_option maxHeartbeats 4000000 in
set_option maxRecDepth 100000 in
theorem impl_isLost.same (A B : Option Addr) (ca cb : Nat) (xs ys : List Int) (w : World) (hx : Kd.C (Kd.int .i64) w A xs.length xs) (hy : Kd.C (Kd.int .i64) w B ys.length ys) (hl : ys.length ≤ 1000000) :
    Calls Try.prog 53 #[.slice A xs.length ca, .slice B ys.length cb] w fun e w' => e = .returned (.bool (decide (xs = ys))) ∧ Drawn0 w w' := by
  have HX := Aside0.mk hx
  have HY := Aside0.mk hy
  clear hx hy
  by_cases hc : xs.length = ys.length
  case neg =>
    have hc1 : ((xs.length : Int) != (ys.length : Int)) = true := bne_iff_ne.mpr (by omega)
    have hr : decide (xs = ys) = false := decide_eq_false (fun e => hc (by rw [e]))
    rw [hr]
    go_enter Try.func53, Try.ntmps53
    go_wp2
    go_ret
    exact ⟨rfl, by repeat (first | exact Drawn0.refl _ | apply Drawn0.step)⟩
  have hc1 : ((xs.length : Int) != (ys.length : Int)) = false := bne_eq_false_iff_eq.mpr (by omega)
  have HL := Aside0.mk hc
  clear hc
  go_enter Try.func53, Try.ntmps53
  go_wp2
  go_loopg [13] xs.length (fun kq v13 w' => ∃ (j : Int), v13 = .int .i64 j ∧ kq = xs.length - j.toNat ∧ Aside0 (0 ≤ j ∧ j ≤ (xs.length : Int)) ∧ Aside0 (xs.take j.toNat = ys.take j.toNat) ∧ Aside0 (Drawn0 w w'))
  case atStart => exact ⟨0, rfl, by simp, ⟨by omega⟩, ⟨by simp⟩, ⟨by repeat (first | exact Drawn0.refl _ | apply Drawn0.step)⟩⟩
  case round =>
    obtain ⟨j, rfl, rfl, hj, ht, hd⟩ := hrel
    have hj0 := hj.out.1
    have hj1 := hj.out.2
    have hlen := HL.out
    by_cases c : j < (xs.length : Int)
    · have c0 : decide (j < (xs.length : Int)) = true := decide_eq_true c
      have hw1 : IntKind.i64.wrap (j + 1) = j + 1 := by rw [IntKind.wrap_i64]; omega
      obtain ⟨ad, e1, hx1⟩ := Kd.at_int HX.out j hj0 c
      obtain ⟨bd, e2, hy1⟩ := Kd.at_int HY.out j hj0 (by omega)
      subst e1 e2
      obtain ⟨nd, hnd⟩ := hd.out
      subst hnd
      have hjx : j.toNat < xs.length := by omega
      have hjy : j.toNat < ys.length := by omega
      have ex : rd xs j = xs[j.toNat] := by unfold rd; rw [List.getD_eq_getElem?_getD, List.getElem?_eq_getElem hjx]; rfl
      have ey : rd ys j = ys[j.toNat] := by unfold rd; rw [List.getD_eq_getElem?_getD, List.getElem?_eq_getElem hjy]; rfl
      have p0 := eq_true hj0
      have q0 := eq_true c
      have q1 := eq_true (show j < (ys.length : Int) by omega)
      have key : rd xs j = rd ys j → xs.take (j.toNat + 1) = ys.take (j.toNat + 1) := fun h => by
        rw [List.take_succ_eq_append_getElem hjx, List.take_succ_eq_append_getElem hjy, ht.out, ← ex, ← ey, h]
      have key2 : rd xs j ≠ rd ys j → decide (xs = ys) = false := fun h => decide_eq_false (fun e => h (by rw [e]))
      have KEY := Aside0.mk key
      have KEY2 := Aside0.mk key2
      have HJ := Aside0.mk (And.intro hj0 hjx)
      clear key key2 ex ey hj hj0 hj1 hlen c hjx hjy ht hd
      by_cases cc : rd xs j = rd ys j
      · have ccb : (rd xs j != rd ys j) = false := bne_eq_false_iff_eq.mpr cc
        have CC := Aside0.mk cc
        clear cc
        go_wp2
        go_quiet (fail)
        go_wp2
        go_roundg (xs.length - (j + 1).toNat)
        case measure => have := HJ.out; omega
        case rel => exact ⟨j + 1, by first | rfl | rw [hw1], rfl, ⟨by have := HJ.out; omega⟩, ⟨by rw [show (j + 1).toNat = j.toNat + 1 by have := HJ.out; omega]; exact KEY.out CC.out⟩, ⟨by first | exact ⟨_, rfl⟩ | exact ⟨_, World.drewN_drewN _ _ _⟩⟩⟩
      · have ccb : (rd xs j != rd ys j) = true := bne_iff_ne.mpr cc
        have CC := Aside0.mk cc
        clear cc
        go_wp2
        go_quiet (fail)
        go_wp2
        go_ret
        exact ⟨congrArg (fun b => Ending.returned (Value.bool b)) (KEY2.out CC.out).symm, by first | exact ⟨_, rfl⟩ | exact ⟨_, World.drewN_drewN _ _ _⟩⟩
    · have c0 : decide (j < (xs.length : Int)) = false := decide_eq_false c
      have hr : decide (xs = ys) = true := decide_eq_true (by
        have := ht.out
        rwa [List.take_of_length_le (by omega), List.take_of_length_le (by omega)] at this)
      have HR := Aside0.mk hr
      have HD := hd
      clear hr hj hj0 hj1 hlen c ht hd
      go_wp2
      go_ret
      exact ⟨congrArg (fun b => Ending.returned (Value.bool b)) HR.out.symm, HD.out⟩
theorem impl_isLost.below_drawn {w W W1 : World} (h : Below w.heap.size w W) (hd : Drawn0 W W1) : Below w.heap.size w W1 := by
  obtain ⟨n, rfl⟩ := hd.out
  exact pw_below_drewN h _
theorem impl_isLost.elem {w : World} {A : Option Addr} {n : Nat} {l : List (List Int)} (h : Kd.C (Kd.slice 24 (Kd.int .i64)) w A n l) (i : Int) (h0 : 0 ≤ i) (h1 : i < n) : ∃ ad A0 c0, A = some ad ∧ w.cell? (ad.add i.toNat) = some (.slice A0 (l.getD i.toNat []).length c0) ∧ Kd.C (Kd.int .i64) w A0 (l.getD i.toNat []).length (l.getD i.toNat []) := by
  obtain ⟨ad, c, e, _, hK, hc0⟩ := Kd.C_get h [] i h0 h1
  have hc : ∀ j u, c[j]? = some u → w.cell? (ad.add (i.toNat * 1 + j)) = some u := hc0
  obtain ⟨A0, c0, rfl, l0, g0⟩ := hK
  exact ⟨ad, A0, c0, e, by have hq := hc 0 _ rfl; rwa [Nat.mul_one, Nat.add_zero] at hq, g0⟩
theorem impl_isLost.reps2 (W : World) (b : Nat) (ok : Nat → Prop) (a1 a2 : Int) : Reps ((Kd.int .i64).M W b ok) 1 [a1, a2] [.int .i64 a1, .int .i64 a2] := by
  refine ⟨rfl, fun j p hj => ?_⟩
  match j with
  | 0 => cases hj; rfl
  | 1 => cases hj; rfl
  | j + 2 => simp at hj
set_option maxHeartbeats 4000000 in
set_option maxRecDepth 100000 in
theorem impl_isLost.clos (A : Option Addr) (ca : Nat) (xs : List Int) (a1 a2 : Int) (g1 g2 : Nat) (w : World) (hx : Kd.C (Kd.int .i64) w A xs.length xs) (hb1 : w.heap[g1]? = some (.cells #[.int .i64 a1] 3 (0, 0))) (hb2 : w.heap[g2]? = some (.cells #[.int .i64 a2] 3 (0, 0))) :
    Calls Try.prog 52 #[.slice A xs.length ca, .pointer (some ⟨g1, 0, none⟩), .pointer (some ⟨g2, 0, none⟩)] w fun e w' => e = .returned (.bool (decide (xs = [a1, a2]))) ∧ Below w.heap.size w w' := by
  have HX := Aside0.mk hx
  have HB := Aside0.mk (Below.refl w.heap.size w)
  have hz1 := (blk_cell hb1 0).trans rfl
  have hz2 := (blk_cell hb2 0).trans rfl
  clear hx hb1 hb2
  go_enter Try.func52, Try.ntmps52
  go_wp2_with (first | ((with_reducible refine gate_dst (N := 8) rfl ?_); refine Kd.R_lit (Kd.int .i64) _ 3 ?hg (N := 8) ?hd (xs := ([a1, a2] : List Int)) (inner := [.int .i64 a1, .int .i64 a2]) (ok := fun _ => True) (okp := fun _ => True) ?hr ?hp (fun _ hk => hk) trivial (Below.refl _ _) (Nat.le_refl _) (by simp) ?_; (case hd => rfl); (case hg => rfl); (case hr => first | (go_simp; done) | (go_simp; rfl)); (case hp => exact impl_isLost.reps2 _ _ _ a1 a2); intro v8 w8 ho8 hb hg_ hnew_; clear hg_ hnew_; obtain ⟨A8, c8, e8⟩ := Kd.R_slice ho8; subst e8; have n1_ := Aside0.mk (below_step (by repeat (first | (with_reducible first | exact HB.out | apply below_alloc | apply pw_below_drewN | apply below_drew1) | exact HB.out)) hb); have hy := Aside0.mk (Kd.R_reads' ho8).2.2; have hx2 := Aside0.mk (Kd.C_below HX.out (by repeat (first | (with_reducible first | exact HB.out | apply below_alloc | apply pw_below_drewN | apply below_drew1) | exact HB.out))); have hx3 := Aside0.mk (Kd.C_below HX.out n1_.out); clear HB HX hb ho8 hx2; have HB := n1_; have HX := hx3; clear n1_ hx3) | (go_at_call 53; refine (impl_isLost.same A A8 ca c8 xs [a1, a2] _ HX.out hy.out (by simp)).mono ?_; rintro e w9 ⟨rfl, hd⟩; have n1_ := Aside0.mk (impl_isLost.below_drawn HB.out hd); clear HB; have HB := n1_; clear n1_ hd))
  go_ret
  exact ⟨rfl, (by repeat (first | (with_reducible first | exact HB.out | apply below_alloc | apply pw_below_drewN | apply below_drew1) | exact HB.out))⟩
set_option maxHeartbeats 4000000 in
set_option maxRecDepth 100000 in
theorem impl_isLost.index (A : Option Addr) (ca : Nat) (l : List (List Int)) (a1 a2 : Int) (g1 g2 : Nat) (w : World) (hl : Kd.C (Kd.slice 24 (Kd.int .i64)) w A l.length l) (hlen : l.length ≤ 2000000) (hb1 : w.heap[g1]? = some (.cells #[.int .i64 a1] 3 (0, 0))) (hb2 : w.heap[g2]? = some (.cells #[.int .i64 a2] 3 (0, 0))) :
    Calls Try.prog 56 #[.slice A l.length ca, .func (.func 52) #[] #[.pointer (some ⟨g1, 0, none⟩), .pointer (some ⟨g2, 0, none⟩)]] w fun e w' => ∃ i : Int, e = .returned (.int .i64 i) ∧ (0 ≤ i ↔ l.any (fun p => decide (p = [a1, a2])) = true) ∧ Below w.heap.size w w' := by
  have HL := Aside0.mk hl
  have HN := Aside0.mk hlen
  have BK1 := Aside0.mk hb1
  have BK2 := Aside0.mk hb2
  have HB := Aside0.mk (Below.refl w.heap.size w)
  clear hl hb1 hb2 hlen
  go_enter Try.func56, Try.ntmps56
  go_wp2
  go_loopg [8] l.length (fun kq v8 w' => ∃ (j : Int), v8 = .int .i64 j ∧ kq = l.length - j.toNat ∧ Aside0 (0 ≤ j ∧ j ≤ (l.length : Int)) ∧ Aside0 ((l.take j.toNat).any (fun p => decide (p = [a1, a2])) = false) ∧ Aside0 (Below w.heap.size w w'))
  case atStart => exact ⟨0, rfl, by simp, ⟨by omega⟩, ⟨by simp⟩, ⟨(by repeat (first | (with_reducible first | exact HB.out | apply below_alloc | apply pw_below_drewN | apply below_drew1) | exact HB.out))⟩⟩
  case round =>
    clear HB
    obtain ⟨j, rfl, rfl, hj, ht, HB⟩ := hrel
    have hj0 := hj.out.1
    have hj1 := hj.out.2
    have hn := HN.out
    by_cases c : j < (l.length : Int)
    · have c0 : decide (j < (l.length : Int)) = true := decide_eq_true c
      have hw1 : IntKind.i64.wrap (j + 1) = j + 1 := by rw [IntKind.wrap_i64]; omega
      obtain ⟨ad, A0, c0', e1, hx, hr⟩ := impl_isLost.elem HL.out j hj0 c
      subst e1
      have hx1 := (HB.out.cell (World.block_lt_of_cell? w _ hx)).trans hx
      have hjl : j.toNat < l.length := by omega
      have eg : l.getD j.toNat [] = l[j.toNat] := by rw [List.getD_eq_getElem?_getD, List.getElem?_eq_getElem hjl]; rfl
      generalize hxs : l.getD j.toNat [] = xs at hx hx1 hr eg
      have hs : l.take (j.toNat + 1) = l.take j.toNat ++ [xs] := by rw [List.take_succ_eq_append_getElem hjl, eg]
      have hr1 := Aside0.mk (Kd.C_below hr HB.out)
      have bk1 := Aside0.mk (blk_below BK1.out HB.out)
      have bk2 := Aside0.mk (blk_below BK2.out HB.out)
      have key1 : xs = [a1, a2] → l.any (fun p => decide (p = [a1, a2])) = true := fun h => List.any_eq_true.2 ⟨xs, by rw [eg]; exact List.getElem_mem hjl, decide_eq_true h⟩
      have key2 : xs ≠ [a1, a2] → (l.take (j.toNat + 1)).any (fun p => decide (p = [a1, a2])) = false := fun h => by rw [hs, List.any_append, ht.out]; simp [h]
      have KEY1 := Aside0.mk key1
      have KEY2 := Aside0.mk key2
      have HJ := Aside0.mk (And.intro hj0 hjl)
      have p0 := eq_true hj0
      have q0 := eq_true c
      clear hx hr key1 key2 eg hs hxs hj hj0 hj1 hn c hjl ht
      by_cases cc : xs = [a1, a2]
      · have CC := Aside0.mk cc
        have hd : decide (xs = [a1, a2]) = true := decide_eq_true cc
        clear cc
        go_wp2_with (first | (go_at_call 52; refine (impl_isLost.clos A0 c0' xs a1 a2 g1 g2 _ hr1.out bk1.out bk2.out).mono ?_; rintro e w9 ⟨rfl, hb⟩; rw [hd]; have n1_ := Aside0.mk (below_step HB.out hb); clear HB; have HB := n1_; clear n1_ hb))
        go_ret
        exact ⟨_, rfl, ⟨fun _ => KEY1.out CC.out, fun _ => HJ.out.1⟩, (by repeat (first | (with_reducible first | exact HB.out | apply below_alloc | apply pw_below_drewN | apply below_drew1) | exact HB.out))⟩
      · have CC := Aside0.mk cc
        have hd : decide (xs = [a1, a2]) = false := decide_eq_false cc
        clear cc
        go_wp2_with (first | (go_at_call 52; refine (impl_isLost.clos A0 c0' xs a1 a2 g1 g2 _ hr1.out bk1.out bk2.out).mono ?_; rintro e w9 ⟨rfl, hb⟩; rw [hd]; have n1_ := Aside0.mk (below_step HB.out hb); clear HB; have HB := n1_; clear n1_ hb))
        go_roundg (l.length - (j + 1).toNat)
        case measure => have := HJ.out; omega
        case rel => exact ⟨j + 1, by first | rfl | rw [hw1], rfl, ⟨by have := HJ.out; omega⟩, ⟨by rw [show (j + 1).toNat = j.toNat + 1 by have := HJ.out; omega]; exact KEY2.out CC.out⟩, ⟨(by repeat (first | (with_reducible first | exact HB.out | apply below_alloc | apply pw_below_drewN | apply below_drew1) | exact HB.out))⟩⟩
    · have c0 : decide (j < (l.length : Int)) = false := decide_eq_false c
      have hr : l.any (fun p => decide (p = [a1, a2])) = false := by
        have := ht.out
        rwa [List.take_of_length_le (by omega)] at this
      have HR := Aside0.mk hr
      clear hr hj hj0 hj1 hn c ht
      go_wp2
      go_ret
      exact ⟨_, rfl, ⟨fun h => absurd h (by decide), fun h => by rw [HR.out] at h; cases h⟩, (by repeat (first | (with_reducible first | exact HB.out | apply below_alloc | apply pw_below_drewN | apply below_drew1) | exact HB.out))⟩
set_option maxHeartbeats 4000000 in
set_option maxRecDepth 100000 in
theorem impl_isLost.contains (A : Option Addr) (ca : Nat) (l : List (List Int)) (a1 a2 : Int) (g1 g2 : Nat) (w : World) (hl : Kd.C (Kd.slice 24 (Kd.int .i64)) w A l.length l) (hlen : l.length ≤ 2000000) (hb1 : w.heap[g1]? = some (.cells #[.int .i64 a1] 3 (0, 0))) (hb2 : w.heap[g2]? = some (.cells #[.int .i64 a2] 3 (0, 0))) :
    Calls Try.prog 51 #[.slice A l.length ca, .func (.func 52) #[] #[.pointer (some ⟨g1, 0, none⟩), .pointer (some ⟨g2, 0, none⟩)]] w fun e w' => e = .returned (.bool (l.any (fun p => decide (p = [a1, a2])))) ∧ Below w.heap.size w w' := by
  have HL := Aside0.mk hl
  have HN := Aside0.mk hlen
  have BK1 := Aside0.mk hb1
  have BK2 := Aside0.mk hb2
  have HB := Aside0.mk (Below.refl w.heap.size w)
  clear hl hb1 hb2 hlen
  go_enter Try.func51, Try.ntmps51
  go_wp2_with (first | (go_at_call 56; refine (impl_isLost.index A ca l a1 a2 g1 g2 _ HL.out HN.out BK1.out BK2.out).mono ?_; rintro e w9 ⟨i, rfl, hi, hb⟩; have HI := Aside0.mk (show decide (0 ≤ i) = l.any (fun p => decide (p = [a1, a2])) by rw [Bool.eq_iff_iff, ← hi]; simp); have n1_ := Aside0.mk (below_step HB.out hb); clear HB hi; have HB := n1_; clear n1_ hb))
  go_ret
  exact ⟨congrArg (fun b => Ending.returned (Value.bool b)) HI.out, (by repeat (first | (with_reducible first | exact HB.out | apply below_alloc | apply pw_below_drewN | apply below_drew1) | exact HB.out))⟩
set_option maxHeartbeats 4000000 in
set_option maxRecDepth 100000 in
theorem impl_isLost.calls (A0 : Option Addr) (c0 : Nat) (l0 : List (List Int)) (a1 : Int) (a2 : Int) (r : Bool) (w : World) (hr0 : Kd.C (Kd.slice 24 (Kd.int .i64)) w A0 l0.length l0) (hc0 : l0.length ≤ c0) (h : impl_isLost.f l0 a1 a2 = some r) :
    Calls Try.prog 46 #[.slice A0 l0.length c0, .int .i64 a1, .int .i64 a2] w fun e w' => e = .returned (.bool r) ∧ Below w.heap.size w w' := by
  unfold impl_isLost.f at h
  by_cases hc : l0.length ≤ 2000000
  case neg => rw [if_neg hc] at h; cases h
  rw [if_pos hc] at h
  obtain rfl := Option.some.inj h
  have HL := Aside0.mk hr0
  have HN := Aside0.mk hc
  have HB := Aside0.mk (Below.refl w.heap.size w)
  have hmf : ∀ (fn : Fn) (first cap : Array Value) (w : World), (Instr.makeFunc fn first cap).run Try.prog w = .ok (.func fn first cap) w := fun _ _ _ _ => rfl
  clear hr0 hc h
  go_enter Try.func46, Try.ntmps46
  go_wp2_with (first | ((with_reducible refine gate_dst (N := 4) rfl ?_); refine box_event ?hg (N := 4) ?hd (cs := #[.int .i64 a1]) (t := 3) ?hr ?_; (case hd => rfl); (case hg => rfl); (case hr => first | (go_simp; done) | (go_simp; rfl)); intro g1 hg w5 hbox hb; have BK1 := Aside0.mk hbox; have n1_ := Aside0.mk (below_step (by repeat (first | (with_reducible first | exact HB.out | apply below_alloc | apply pw_below_drewN | apply below_drew1) | exact HB.out)) hb); clear HB hbox hb hg; have HB := n1_; clear n1_) | ((with_reducible refine gate_dst (N := 5) rfl ?_); refine box_event ?hg (N := 5) ?hd (cs := #[.int .i64 a2]) (t := 3) ?hr ?_; (case hd => rfl); (case hg => rfl); (case hr => first | (go_simp; done) | (go_simp; rfl)); intro g2 hg w6 hbox hb; have BK2 := Aside0.mk hbox; have n2_ := Aside0.mk (blk_below (by (with_reducible repeat (first | refine blk_drewN ?_ _ | refine blk_drew ?_ | refine blk_alloc ?_ _)); exact BK1.out) hb); have n1_ := Aside0.mk (below_step (by repeat (first | (with_reducible first | exact HB.out | apply below_alloc | apply pw_below_drewN | apply below_drew1) | exact HB.out)) hb); clear HB hbox hb hg BK1; have HB := n1_; have BK1 := n2_; clear n1_ n2_) | (go_at_call 51; refine (impl_isLost.contains A0 c0 l0 a1 a2 g1 g2 _ (Kd.C_below HL.out HB.out) HN.out BK1.out BK2.out).mono ?_; rintro e w9 ⟨rfl, hb⟩; have n1_ := Aside0.mk (below_step HB.out hb); clear HB; have HB := n1_; clear n1_ hb))
  go_ret
  exact ⟨rfl, (by repeat (first | (with_reducible first | exact HB.out | apply below_alloc | apply pw_below_drewN | apply below_drew1) | exact HB.out))⟩

end Go.Proofs.Ytokoihmjcfhemaa.PFnExactSpread
