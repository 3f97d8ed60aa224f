-- Written by a program out of the translation,for this claim.
import Derived.Test.YtlidnobkkgcnlaaPFnLinksx0
import Derived.Test.YtlidnobkkgcnlaaPFnLinksx14
namespace Go.Proofs.Ytlidnobkkgcnlaa.PFnLinks
open Go.RowKit Go.Proofs.YtlidnobkkgcnlaaW.PrintWords Go.Proofs.YtlidnobkkgcnlaaW.PrintLast Go.Proofs.YtlidnobkkgcnlaaW.PrintMore
attribute [local go_sem] max2_int min2_int max_two min_two max_three min_three max_four min_four   -- for this text's walks alone
set_option linter.unusedVariables false
set_option linter.unusedSimpArgs false
theorem rrA17 {p q : Prop} (h : p) (f : p → q := by (intro h_; (with_reducible repeat (first | apply Kd.R_alloc | apply Kd.R_drewN | apply Kd.R_drew)); exact h_)) : q := f h
open Go.Proofs.YtlidnobkkgcnlaaW.PrintWords.Aside0 renaming mk → zA

/-! ### impl_End_parcels: function 56,by hand -/
def impl_End_parcels.el (s1 : Int) (s2 : List ByteArray) (s3 : Int) (a1 : Int) (i : Nat) : S36 := ⟨a1 + i,s3,rdOf ByteArray.empty s2 (a1 + i - s1 - 1)⟩
def impl_End_parcels.f (s0 : Int) (s1 : Int) (s2 : List ByteArray) (s3 : Int) (s4 : List ByteArray) (a1 : Int) (a2 : Int) : Option (List S36) :=
  if 0 ≤ s1 ∧ s1 + 1 ≤ a1 ∧ a2 ≤ s1 + s2.length ∧ s1 ≤ 1000000000 ∧ s2.length ≤ 1000000000 then some ((List.range (a2 + 1 - a1).toNat).map (impl_End_parcels.el s1 s2 s3 a1)) else none
set_option maxHeartbeats 8000000 in
set_option maxRecDepth 100000 in
theorem impl_End_parcels.calls (g : Nat) (s0 : Int) (s1 : Int) (A2 : Option Addr) (c2 : Nat) (s2 : List ByteArray) (s3 : Int) (A4 : Option Addr) (c4 : Nat) (s4 : List ByteArray) (a1 : Int) (a2 : Int) (r : List S36) (w : World)
   (hb : w.heap[g]? = some (.cells #[.int .i64 s0,.int .i64 s1,.slice A2 s2.length c2,.int .i64 s3,.slice A4 s4.length c4] 26 (0,0))) (hr2 : Kd.C Kd.string w A2 s2.length s2) (hc2 : s2.length ≤ c2) (hr4 : Kd.C Kd.string w A4 s4.length s4) (hc4 : s4.length ≤ c4) (h : impl_End_parcels.f s0 s1 s2 s3 s4 a1 a2 = some r) :
   Calls Try.prog 56 #[.pointer (some ⟨g,0,none⟩),.int .i64 a1,.int .i64 a2] w fun e w' => ∃ v0_ : Value,e = .returned (v0_) ∧ Kd.R k36 36 w' w.heap.size (fun _ => True) v0_ r ∧ Below w.heap.size w w' := by
  unfold impl_End_parcels.f at h
  by_cases hc : 0 ≤ s1 ∧ s1 + 1 ≤ a1 ∧ a2 ≤ s1 + s2.length ∧ s1 ≤ 1000000000 ∧ s2.length ≤ 1000000000
  case neg => rw [if_neg hc] at h; cases h
  rw [if_pos hc] at h
  obtain rfl := Option.some.inj h
  obtain ⟨h1,h2,h3,h4,h5⟩ := hc
  have HBK := zA hb
  have HR2 := zA hr2
  have HB := zA (Below.refl w.heap.size w)
  have hgw := zA (blk_lt hb)
  clear hb hr2 hr4 hc2 hc4 h
  go_enter Try.func56,Try.ntmps56
  go_wp2
  go_loopg [7,8] (a2 + 1 - a1).toNat (fun kq v7 v8 w' => ∃ j : Nat,v8 = .int .i64 (a1 + j) ∧ kq = (a2 + 1 - a1).toNat - j ∧ Aside0 (j ≤ (a2 + 1 - a1).toNat) ∧ Aside0 (Kd.R k36 36 w' w.heap.size (fun _ => True) v7 ((List.range j).map (impl_End_parcels.el s1 s2 s3 a1))) ∧ Aside0 (Below w.heap.size w w'))
  case atStart => exact ⟨0,by simp,rfl,⟨Nat.zero_le _⟩,⟨Kd.R_nil _ _ _ _ _⟩,HB⟩
  case round =>
   obtain ⟨j,rfl,rfl,hj,HO,HB1⟩ := hrel
   by_cases c : a1 + j ≤ a2
   ·
    have c0 : decide (a1 + (j : Int) ≤ a2) = true := decide_eq_true c
    have hi0 : 0 ≤ a1 + (j : Int) - s1 - 1 := by omega
    have hi1 : a1 + (j : Int) - s1 - 1 < (s2.length : Int) := by omega
    obtain ⟨ad,e,hx⟩ := Kd.at_string HR2.out _ hi0 hi1
    cases e
    have hx2 := (HB1.out.cell (World.block_lt_of_cell? w _ hx)).trans hx
    rw [show (a1 + (j : Int) - s1 - 1).toNat = (a1 + (j : Int) - s1).toNat - 1 by omega] at hx2
    have hi2 : 1 ≤ a1 + (j : Int) - s1 := by omega
    have hbw := blk_below HBK.out HB1.out
    have x1 : wr.cell? ⟨g,1,none⟩ = some (.int .i64 s1) := (blk_cell hbw 1).trans rfl
    have x2 : wr.cell? ⟨g,2,none⟩ = some (.slice (some ad) s2.length c2) := (blk_cell hbw 2).trans rfl
    have x3 : wr.cell? ⟨g,3,none⟩ = some (.int .i64 s3) := (blk_cell hbw 3).trans rfl
    clear hx
    have hw1 : IntKind.i64.wrap (a1 + (j : Int) - s1) = a1 + (j : Int) - s1 := by rw [IntKind.wrap_i64]; omega
    have hw2 : IntKind.i64.wrap (a1 + (j : Int) - s1 - 1) = a1 + (j : Int) - s1 - 1 := by rw [IntKind.wrap_i64]; omega
    have hlj := hj.out
    go_wp2
    go_region_law (refine Kd.R_append_step (W := wr.drew) k36 w.heap.size (by simp [Region.wanted]) (.tmp 15) (.tmp 35) 45 36 _ 32 rfl Try.underlying45 info36 rfl (by decide) (by omega) _ _ (impl_End_parcels.el s1 s2 s3 a1 j) [.int .i64 (a1 + (j : Int)),.int .i64 s3,.string (rdOf ByteArray.empty s2 (a1 + (j : Int) - s1 - 1))] (fun _ => True) (fun _ => False) (by simp [Act.eval,Act.put]) (by simp [Act.eval,Act.put]) (k36_mkM _ _ _ _) (fun _ hk => hk.elim) (fun _ _ => trivial) (Kd.R_drew HO.out) (below_drew HB1.out) HB1.out.size (by simp; omega) ?_; intro v1 w1 ho1 hb1 hg1 hat1; replace ho1 := zA ho1; replace hb1 := zA hb1; clear hg1 hat1)
    go_wp2
    all_goals
     go_roundg ((a2 + 1 - a1).toNat - (j + 1))
     case measure => omega
     case rel => exact ⟨j + 1,by simp; omega,rfl,⟨by omega⟩,⟨by rw [List.range_succ,List.map_append]; exact ho1.out⟩,hb1⟩
   ·
    have c0 : decide (a1 + (j : Int) ≤ a2) = false := decide_eq_false c
    have hlj := hj.out
    have hje : j = (a2 + 1 - a1).toNat := by omega
    replace hje := zA hje
    go_wp2
    go_ret
    exact ⟨_,rfl,by rw [← hje.out]; exact HO.out,HB1.out⟩

/-! ### impl_SendAgain: function 27 -/
def impl_SendAgain.f (k : Nat) (a0_0 : Int) (a0_1 : Int) (l0_2 : List ByteArray) (a0_3 : Int) (l0_4 : List ByteArray) : Option ((List (S36))) := (impl_EndOk.f k a0_0 a0_1 l0_2 a0_3 l0_4).bind fun t469 => (if t469 = true then (if a0_0 = a0_1 then (some (([(⟨0,a0_3,(⟨#[]⟩ : ByteArray)⟩ : S36)] : List (S36)))) else ((impl_End_parcels.f a0_0 a0_1 l0_2 a0_3 l0_4 (wrap64 (a0_1 + 1)) a0_0).bind fun t473 => (some t473))) else (some ([] : List (S36))))
theorem impl_SendAgain.mono : ∀ a0 a1 a2 a3 a4 k,LeO (impl_SendAgain.f k a0 a1 a2 a3 a4) (impl_SendAgain.f (k + 1) a0 a1 a2 a3 a4) := by
  intro a0 a1 a2 a3 a4 k
  unfold impl_SendAgain.f
  repeat' first
   |(with_reducible exact impl_EndOk.mono _ _ _ _ _ _)
   |(with_reducible exact LeO.refl _)
   |(with_reducible exact LeO.none _)
   |(with_reducible refine LeO.ite ?_ ?_)
   |(with_reducible refine LeO.bind ?_ (fun _ => ?_))
   |exact impl_EndOk.mono _ _ _ _ _ _
   |exact LeO.none _
   |refine LeO.ite ?_ ?_
   |refine LeO.bind ?_ (fun _ => ?_)
set_option maxHeartbeats 8000000 in
set_option maxRecDepth 100000 in
theorem impl_SendAgain.calls (k : Nat) (a0_0 : Int) (a0_1 : Int) (A0_2 : Option Addr) (c0_2 : Nat) (l0_2 : List ByteArray) (a0_3 : Int) (A0_4 : Option Addr) (c0_4 : Nat) (l0_4 : List ByteArray) (r : List (S36)) (w : World) (hr0_2 : Kd.C Kd.string w A0_2 l0_2.length l0_2) (hc0_2 : l0_2.length ≤ c0_2) (hr0_4 : Kd.C Kd.string w A0_4 l0_4.length l0_4) (hc0_4 : l0_4.length ≤ c0_4) (h : impl_SendAgain.f k a0_0 a0_1 l0_2 a0_3 l0_4 = some r) :
   Calls Try.prog 27 #[.agg #[.int .i64 a0_0,.int .i64 a0_1,.slice A0_2 l0_2.length c0_2,.int .i64 a0_3,.slice A0_4 l0_4.length c0_4]] w fun e w' => ∃ v0_ : Value,e = .returned (v0_) ∧ Kd.R k36 36 w' w.heap.size (fun _ => True) v0_ r ∧ Below w.heap.size w w' := by
  have hu26 := Try.underlying26
  have hu36 := Try.underlying36
  have HR0_2 := zA hr0_2
  have HC0_2 := zA hc0_2
  clear hr0_2 hc0_2
  have HR0_4 := zA hr0_4
  have HC0_4 := zA hc0_4
  clear hr0_4 hc0_4
  have HB := zA (Below.refl w.heap.size w)
  have H : ((impl_EndOk.f k a0_0 a0_1 l0_2 a0_3 l0_4).bind fun t469 => (if t469 = true then (if a0_0 = a0_1 then (some (([(⟨0,a0_3,(⟨#[]⟩ : ByteArray)⟩ : S36)] : List (S36)))) else ((impl_End_parcels.f a0_0 a0_1 l0_2 a0_3 l0_4 (wrap64 (a0_1 + 1)) a0_0).bind fun t473 => (some t473))) else (some ([] : List (S36))))) = some r := h
  clear h
  replace H := Option.bind_eq_some_iff.mp H
  obtain ⟨t469,A20,H⟩ := H
  replace H : (if t469 = true then (if a0_0 = a0_1 then (some (([(⟨0,a0_3,(⟨#[]⟩ : ByteArray)⟩ : S36)] : List (S36)))) else ((impl_End_parcels.f a0_0 a0_1 l0_2 a0_3 l0_4 (wrap64 (a0_1 + 1)) a0_0).bind fun t473 => (some t473))) else (some ([] : List (S36)))) = some r := H
  have A2 := zA A20
  clear A20
  by_cases c3 : t469 = true
  ·
   subst c3
   have H1 : (if a0_0 = a0_1 then (some (([(⟨0,a0_3,(⟨#[]⟩ : ByteArray)⟩ : S36)] : List (S36)))) else ((impl_End_parcels.f a0_0 a0_1 l0_2 a0_3 l0_4 (wrap64 (a0_1 + 1)) a0_0).bind fun t473 => (some t473))) = some r := by rw [if_pos rfl] at H; exact H
   clear H; have H := H1; clear H1
   by_cases c4 : a0_0 = a0_1
   ·
    rw [if_pos c4] at H
    have c4b0 : (a0_0 == a0_1) = true := beq_iff_eq.mpr c4
    have c4b1 : (a0_0 != a0_1) = false := bne_eq_false_iff_eq.mpr c4
    clear c4
    obtain ⟨y470,hy470⟩ : ∃ y_ : List (S36),y_ = (([(⟨0,a0_3,(⟨#[]⟩ : ByteArray)⟩ : S36)] : List (S36))) := ⟨_,rfl⟩
    replace H : (some y470) = some r := by first | (rw [hy470]; with_reducible exact H) | (have H2_ := (Option.bind_some _ _).symm.trans H; rw [hy470]; with_reducible exact H2_) | (have H2_ := (Option.bind_some _ _).symm.trans H; with_reducible exact H2_)|with_reducible exact H | (rw [hy470]; exact H)|exact H
    have Ny470 := zA hy470
    clear hy470
    obtain rfl := Option.some.inj H
    go_enter Try.func27,Try.ntmps27
    go_wp2_with (first | ((with_reducible refine gate_dst (N := 1) rfl ?_); refine box_event ?hg (N := 1) ?hd (cs := #[.int .i64 a0_0,.int .i64 a0_1,.slice A0_2 l0_2.length c0_2,.int .i64 a0_3,.slice A0_4 l0_4.length c0_4]) (t := 26) ?hr ?_; (case hd => rfl); (case hg => rfl); (case hr => first | (go_simp; done) | (go_simp; rfl)); intro gb468 hg w5 hbox hb; have n0_ := zA (below_step (bT HB) hb); have n1_ := zA (hbox); have n2_ := zA ((by rw [hg]; exact (below_size (bT HB)) : w.heap.size ≤ gb468)); have n3_ := zA ((by rw [hg]; exact (below_size (bT HB)) : w.heap.size ≤ gb468)); clear HB; have HB := n0_; have BK468 := n1_; have GW468 := n2_; have GE468 := n3_; clear n0_ n1_ n2_ n3_ hb hbox hg; obtain ⟨_,_,_,_,_,_,_,_,_,_⟩ := cz5 BK468.out) | ((with_reducible refine gate_callee (f := 23) rfl ?_); refine goesL_ (some 4) rfl rfl Try.func23 (by kernel_rfl) rfl #[.agg #[.int .i64 a0_0,.int .i64 a0_1,.slice A0_2 l0_2.length c0_2,.int .i64 a0_3,.slice A0_4 l0_4.length c0_4]] rfl (by (try simp only [List.map_toArray,List.map_cons,List.map_nil]); first | done|rfl|(simp only [List.length_drop,List.length_take]; rfl)) ?_; (with_reducible refine (impl_EndOk.calls k a0_0 a0_1 _ _ l0_2 a0_3 _ _ l0_4 true _ ?side1 ?side2 ?side3 ?side4 A2.out).mono ?_); (case side1 => exact ccT (Kd.C_below HR0_2.out HB.out)); (case side2 => exact HC0_2.out); (case side3 => exact ccT (Kd.C_below HR0_4.out HB.out)); (case side4 => exact HC0_4.out); rintro e w7 ⟨rfl,hb⟩; refine ⟨_,rfl,?_⟩; have n0_ := zA (blk_below (bkT BK468.out) hb); have n1_ := zA (below_step (bT HB) hb); clear BK468 HB; have BK468 := n0_; have HB := n1_; clear n0_ n1_; obtain ⟨_,_,_,_,_,_,_,_,_,_⟩ := cz5 BK468.out) | ((with_reducible refine gate_dst (N := 14) rfl ?_); refine Kd.R_lit k36 _ 36 ?hg (N := 14) ?hd (xs := ([(⟨0,a0_3,(⟨#[]⟩ : ByteArray)⟩ : S36)] : List (S36))) (inner := [.int .i64 0,.int .i64 a0_3,.string (⟨#[]⟩ : ByteArray)]) (ok := fun _ => True) (okp := fun _ => True) ?hr ?hp (fun _ hk => hk) trivial (Below.refl _ _) (Nat.le_refl _) (by simp) ?_; (case hd => rfl); (case hg => rfl); (case hr => first | (go_simp; done) | (go_simp; rfl)); (case hp => exact (Reps.c3 (show Kd.M k36 _ _ _ (⟨0,a0_3,(⟨#[]⟩ : ByteArray)⟩ : S36) [.int .i64 0,.int .i64 a0_3,.string (⟨#[]⟩ : ByteArray)] from (k36_mkM _ _ _ (⟨0,a0_3,(⟨#[]⟩ : ByteArray)⟩ : S36) )) (Reps.none _ _))); intro v471 w9 ho10 hb hg_ hnew_; clear hg_ hnew_; (first | rw [← Ny470.out] at ho10|(simp only [Int.reduceToNat] at ho10; rw [← Ny470.out] at ho10)); have n0_ := zA (Kd.R_lower ho10 (below_size (bT HB))); have n1_ := zA (blk_below (bkT BK468.out) hb); have n2_ := zA (below_step (bT HB) hb); clear BK468 HB; have HO472 := n0_; have BK468 := n1_; have HB := n2_; clear n0_ n1_ n2_ hb ho10))
    go_ret
    exact ⟨_,by first|rfl|(simp [errW_none,errW_some] <;> rfl)|(simp [*,errW_none,errW_some] <;> rfl),(rrA17 HO472.out),bT HB⟩
   ·
    rw [if_neg c4] at H
    have c4b0 : (a0_0 == a0_1) = false := beq_eq_false_iff_ne.mpr c4
    have c4b1 : (a0_0 != a0_1) = true := bne_iff_ne.mpr c4
    replace H := Option.bind_eq_some_iff.mp H
    obtain ⟨t473,A110,H⟩ := H
    replace H : (some t473) = some r := H
    have A11 := zA A110
    clear A110
    obtain rfl := Option.some.inj H
    go_enter Try.func27,Try.ntmps27
    go_wp2_with (first | ((with_reducible refine gate_dst (N := 1) rfl ?_); refine box_event ?hg (N := 1) ?hd (cs := #[.int .i64 a0_0,.int .i64 a0_1,.slice A0_2 l0_2.length c0_2,.int .i64 a0_3,.slice A0_4 l0_4.length c0_4]) (t := 26) ?hr ?_; (case hd => rfl); (case hg => rfl); (case hr => first | (go_simp; done) | (go_simp; rfl)); intro gb468 hg w12 hbox hb; have n0_ := zA (below_step (bT HB) hb); have n1_ := zA (hbox); have n2_ := zA ((by rw [hg]; exact (below_size (bT HB)) : w.heap.size ≤ gb468)); have n3_ := zA ((by rw [hg]; exact (below_size (bT HB)) : w.heap.size ≤ gb468)); clear HB; have HB := n0_; have BK468 := n1_; have GW468 := n2_; have GE468 := n3_; clear n0_ n1_ n2_ n3_ hb hbox hg; obtain ⟨_,_,_,_,_,_,_,_,_,_⟩ := cz5 BK468.out) | ((with_reducible refine gate_callee (f := 23) rfl ?_); refine goesL_ (some 4) rfl rfl Try.func23 (by kernel_rfl) rfl #[.agg #[.int .i64 a0_0,.int .i64 a0_1,.slice A0_2 l0_2.length c0_2,.int .i64 a0_3,.slice A0_4 l0_4.length c0_4]] rfl (by (try simp only [List.map_toArray,List.map_cons,List.map_nil]); first | done|rfl|(simp only [List.length_drop,List.length_take]; rfl)) ?_; (with_reducible refine (impl_EndOk.calls k a0_0 a0_1 _ _ l0_2 a0_3 _ _ l0_4 true _ ?side1 ?side2 ?side3 ?side4 A2.out).mono ?_); (case side1 => exact ccT (Kd.C_below HR0_2.out HB.out)); (case side2 => exact HC0_2.out); (case side3 => exact ccT (Kd.C_below HR0_4.out HB.out)); (case side4 => exact HC0_4.out); rintro e w14 ⟨rfl,hb⟩; refine ⟨_,rfl,?_⟩; have n0_ := zA (blk_below (bkT BK468.out) hb); have n1_ := zA (below_step (bT HB) hb); clear BK468 HB; have BK468 := n0_; have HB := n1_; clear n0_ n1_; obtain ⟨_,_,_,_,_,_,_,_,_,_⟩ := cz5 BK468.out) | ((with_reducible refine gate_callee (f := 56) rfl ?_); refine goesL_ (some 20) rfl rfl Try.func56 (by kernel_rfl) rfl #[.pointer (some ⟨gb468,0,none⟩),.int .i64 (wrap64 (a0_1 + 1)),.int .i64 a0_0] rfl (by (try simp only [List.map_toArray,List.map_cons,List.map_nil]); first | done|rfl|(simp only [List.length_drop,List.length_take]; rfl)) ?_; (with_reducible refine (impl_End_parcels.calls gb468 a0_0 a0_1 A0_2 c0_2 l0_2 a0_3 A0_4 c0_4 l0_4 (wrap64 (a0_1 + 1)) a0_0 t473 _ ?side5 ?side1 ?side2 ?side3 ?side4 A11.out).mono ?_); (case side1 => exact ccT (Kd.C_below HR0_2.out HB.out)); (case side2 => exact HC0_2.out); (case side3 => exact ccT (Kd.C_below HR0_4.out HB.out)); (case side4 => exact HC0_4.out); (case side5 => (with_reducible repeat (first|refine blk_drewN ?_ _|refine blk_drew ?_|refine blk_alloc ?_ _)); exact BK468.out); rintro e w16 ⟨v474,rfl,ho0,hb⟩; refine ⟨_,rfl,?_⟩; have n0_ := zA (Kd.R_lower ho0 (below_size (bT HB))); have n1_ := zA (blk_below (bkT BK468.out) hb); have n2_ := zA (below_step (bT HB) hb); clear BK468 HB; have HO475 := n0_; have BK468 := n1_; have HB := n2_; clear n0_ n1_ n2_))
    go_ret
    exact ⟨_,by first|rfl|(simp [errW_none,errW_some] <;> rfl)|(simp [*,errW_none,errW_some] <;> rfl),(rrA17 HO475.out),bT HB⟩
  ·
   replace c3 := Bool.eq_false_iff.mpr c3
   subst c3
   have H1 : (some ([] : List (S36))) = some r := by rw [if_neg (show ¬ (false = true) by decide)] at H; exact H
   clear H; have H := H1; clear H1
   obtain rfl := Option.some.inj H
   go_enter Try.func27,Try.ntmps27
   go_wp2_with (first | ((with_reducible refine gate_dst (N := 1) rfl ?_); refine box_event ?hg (N := 1) ?hd (cs := #[.int .i64 a0_0,.int .i64 a0_1,.slice A0_2 l0_2.length c0_2,.int .i64 a0_3,.slice A0_4 l0_4.length c0_4]) (t := 26) ?hr ?_; (case hd => rfl); (case hg => rfl); (case hr => first | (go_simp; done) | (go_simp; rfl)); intro gb468 hg w17 hbox hb; have n0_ := zA (below_step (bT HB) hb); have n1_ := zA (hbox); have n2_ := zA ((by rw [hg]; exact (below_size (bT HB)) : w.heap.size ≤ gb468)); have n3_ := zA ((by rw [hg]; exact (below_size (bT HB)) : w.heap.size ≤ gb468)); clear HB; have HB := n0_; have BK468 := n1_; have GW468 := n2_; have GE468 := n3_; clear n0_ n1_ n2_ n3_ hb hbox hg; obtain ⟨_,_,_,_,_,_,_,_,_,_⟩ := cz5 BK468.out) | ((with_reducible refine gate_callee (f := 23) rfl ?_); refine goesL_ (some 4) rfl rfl Try.func23 (by kernel_rfl) rfl #[.agg #[.int .i64 a0_0,.int .i64 a0_1,.slice A0_2 l0_2.length c0_2,.int .i64 a0_3,.slice A0_4 l0_4.length c0_4]] rfl (by (try simp only [List.map_toArray,List.map_cons,List.map_nil]); first | done|rfl|(simp only [List.length_drop,List.length_take]; rfl)) ?_; (with_reducible refine (impl_EndOk.calls k a0_0 a0_1 _ _ l0_2 a0_3 _ _ l0_4 false _ ?side1 ?side2 ?side3 ?side4 A2.out).mono ?_); (case side1 => exact ccT (Kd.C_below HR0_2.out HB.out)); (case side2 => exact HC0_2.out); (case side3 => exact ccT (Kd.C_below HR0_4.out HB.out)); (case side4 => exact HC0_4.out); rintro e w19 ⟨rfl,hb⟩; refine ⟨_,rfl,?_⟩; have n0_ := zA (blk_below (bkT BK468.out) hb); have n1_ := zA (below_step (bT HB) hb); clear BK468 HB; have BK468 := n0_; have HB := n1_; clear n0_ n1_))
   go_ret
   exact ⟨_,by first|rfl|(simp [errW_none,errW_some] <;> rfl)|(simp [*,errW_none,errW_some] <;> rfl),by first|exact Kd.R_nil _ _ _ _ _|exact Kd.N_nil _ _ _ _ _|exact Kd.V_nil _ _ _ _ _|exact Kd.Q_nil _ _ _ _ _|exact Kd.S_nil _ _ _ _ _,bT HB⟩

end Go.Proofs.Ytlidnobkkgcnlaa.PFnLinks
