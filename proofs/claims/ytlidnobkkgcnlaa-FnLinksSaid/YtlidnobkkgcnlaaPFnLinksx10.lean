-- Written by a program out of the translation,for this claim.
import Derived.Test.YtlidnobkkgcnlaaPFnLinksx0
import Derived.Test.YtlidnobkkgcnlaaPFnLinksx6
import Derived.Test.YtlidnobkkgcnlaaPFnLinksx7
namespace Go.Proofs.Ytlidnobkkgcnlaa.PFnLinks
open Go.RowKit Go.Proofs.YtlidnobkkgcnlaaW.PrintWords Go.Proofs.YtlidnobkkgcnlaaW.PrintLast Go.Proofs.YtlidnobkkgcnlaaW.PrintMore
attribute [local go_sem] max2_int min2_int max_two min_two max_three min_three max_four min_four   -- for this text's walks alone
set_option linter.unusedVariables false
set_option linter.unusedSimpArgs false
theorem rrA10 {p q : Prop} (h : p) (f : p → q := by (intro h_; (with_reducible repeat (first | apply Kd.R_alloc | apply Kd.R_drewN | apply Kd.R_drew)); exact h_)) : q := f h
open Go.Proofs.YtlidnobkkgcnlaaW.PrintWords.Aside0 renaming mk → zA
open Go.Proofs.YtlidnobkkgcnlaaW.PrintWords.Kd renaming R_far → zB
open Go.Proofs.YtlidnobkkgcnlaaW.PrintWords.Kd renaming R_below → zC
open Go.Proofs.YtlidnobkkgcnlaaW.PrintWords renaming blk_drewN → zD
open Go.Proofs.YtlidnobkkgcnlaaW.PrintWords renaming blk_alloc → zE
open Go.Proofs.YtlidnobkkgcnlaaW.PrintWords renaming blk_drew → zF
open Go.Proofs.YtlidnobkkgcnlaaW.PrintWords renaming blk_below → zG

/-! ### spec_SendNew: function 31 -/
def spec_SendNew.l0 : Nat → List (S36) → Int → Int → List ByteArray → Int → List ByteArray → Int → Int → List ByteArray → Int → List ByteArray → Option (Int × Int × List ByteArray × Int × List ByteArray × (List (S36)))
  | 0,_,_,_,_,_,_,_,_,_,_,_ => none
  | k + 1,x5,x257000,x257001,x257002,x257003,x257004,x268000,x268001,x268002,x268003,x268004 => (spec_EndOk.f k x257000 x257001 x257002 x257003 x257004).bind fun t271 => (if t271 = true then (if x268000 < (wrap64 (x268001 + 4)) then (if (wrap64 (x268000 - x268001)) < (x268002.length : Int) then (if 0 ≤ (wrap64 (x268000 - x268001)) then (if x5.length < 4398046511104 then (spec_SendNew.l0 k (x5 ++ [(⟨wrap64 (x268000 + 1),x268003,rdOf ByteArray.empty x268002 (wrap64 (x268000 - x268001))⟩ : S36)]) x257000 x257001 x257002 x257003 x257004 (wrap64 (x268000 + 1)) x268001 x268002 x268003 x268004) else (none)) else (none)) else (some (x268000,x268001,x268002,x268003,x268004,x5))) else (some (x268000,x268001,x268002,x268003,x268004,x5))) else (some (x268000,x268001,x268002,x268003,x268004,x5)))
def spec_SendNew.f (k : Nat) (a0_0 : Int) (a0_1 : Int) (l0_2 : List ByteArray) (a0_3 : Int) (l0_4 : List ByteArray) : Option (Int × Int × List ByteArray × Int × List ByteArray × (List (S36))) := (spec_l06Copy.f a0_0 a0_1 l0_2 a0_3 l0_4).bind fun bt258 => (spec_SendNew.l0 k (([] : List (S36))) a0_0 a0_1 l0_2 a0_3 l0_4 bt258.1 bt258.2.1 bt258.2.2.1 bt258.2.2.2.1 bt258.2.2.2.2)
theorem spec_SendNew.mono_l : ∀ k,(∀ y0 y1 y2 y3 y4 y5 y6 y7 y8 y9 y10,LeO (spec_SendNew.l0 k y0 y1 y2 y3 y4 y5 y6 y7 y8 y9 y10) (spec_SendNew.l0 (k + 1) y0 y1 y2 y3 y4 y5 y6 y7 y8 y9 y10))
  | 0 => fun _ _ _ _ _ _ _ _ _ _ _ r h => by simp [spec_SendNew.l0] at h
  | k + 1 => by
   have ih0 := spec_SendNew.mono_l k
   ·
    intro y0 y1 y2 y3 y4 y5 y6 y7 y8 y9 y10
    unfold spec_SendNew.l0
    repeat' first
   |(with_reducible exact ih0 _ _ _ _ _ _ _ _ _ _ _)
   |(with_reducible exact spec_EndOk.mono _ _ _ _ _ _)
   |(with_reducible exact LeO.refl _)
   |(with_reducible exact LeO.none _)
   |(with_reducible refine LeO.ite ?_ ?_)
   |(with_reducible refine LeO.bind ?_ (fun _ => ?_))
   |exact ih0 _ _ _ _ _ _ _ _ _ _ _
   |exact spec_EndOk.mono _ _ _ _ _ _
   |exact LeO.none _
   |refine LeO.ite ?_ ?_
   |refine LeO.bind ?_ (fun _ => ?_)
theorem spec_SendNew.mono : ∀ a0 a1 a2 a3 a4 k,LeO (spec_SendNew.f k a0 a1 a2 a3 a4) (spec_SendNew.f (k + 1) a0 a1 a2 a3 a4) := by
  intro a0 a1 a2 a3 a4 k
  have ih0 := spec_SendNew.mono_l k
  unfold spec_SendNew.f
  repeat' first
   |(with_reducible exact ih0 _ _ _ _ _ _ _ _ _ _ _)
   |(with_reducible exact spec_EndOk.mono _ _ _ _ _ _)
   |(with_reducible exact LeO.refl _)
   |(with_reducible exact LeO.none _)
   |(with_reducible refine LeO.ite ?_ ?_)
   |(with_reducible refine LeO.bind ?_ (fun _ => ?_))
   |exact ih0 _ _ _ _ _ _ _ _ _ _ _
   |exact spec_EndOk.mono _ _ _ _ _ _
   |exact LeO.none _
   |refine LeO.ite ?_ ?_
   |refine LeO.bind ?_ (fun _ => ?_)
def spec_SendNew.T4 : Bool × List (List Nat × List Nat) := (true,[([],[]),([],[]),([1],[1]),([2],[2]),([],[]),([4],[4]),([],[]),([6],[6]),([],[]),([8],[8]),([],[]),([10],[10]),([9,11],[9,11]),([7,12],[7,12]),([13],[13]),([3,5,14],[3,5,14]),([15],[15]),([0,16],[0,16]),([17,17,0,1,2,3,4,5,6,7,8,9,10,11,12,13,14,15,16,17],[0,17])])
def spec_SendNew.B4 : List Nat := [0,0,2,6,0,16,0,64,0,256,0,1024,3840,8128,16320,32766,65534,131071,262143]
theorem spec_SendNew.tab4 : rtab .any (opsOf Try.f31 4) = spec_SendNew.T4 := by kernel_rfl
theorem spec_SendNew.bits4 : waitsOk spec_SendNew.T4.2 spec_SendNew.B4 = true := by kernel_rfl
set_option maxHeartbeats 8000000 in
set_option maxRecDepth 100000 in
theorem spec_SendNew.calls (k : Nat) (a0_0 : Int) (a0_1 : Int) (A0_2 : Option Addr) (c0_2 : Nat) (l0_2 : List ByteArray) (a0_3 : Int) (A0_4 : Option Addr) (c0_4 : Nat) (l0_4 : List ByteArray) (r1 : Int) (r2 : Int) (r3 : List ByteArray) (r4 : Int) (r5 : List ByteArray) (r6 : List (S36)) (w : World) (hr0_2 : Kd.C Kd.string w A0_2 l0_2.length l0_2) (hc0_2 : l0_2.length ≤ c0_2) (hr0_4 : Kd.C Kd.string w A0_4 l0_4.length l0_4) (hc0_4 : l0_4.length ≤ c0_4) (h : spec_SendNew.f k a0_0 a0_1 l0_2 a0_3 l0_4 = some (r1,r2,r3,r4,r5,r6)) :
   Calls Try.prog 31 #[.agg #[.int .i64 a0_0,.int .i64 a0_1,.slice A0_2 l0_2.length c0_2,.int .i64 a0_3,.slice A0_4 l0_4.length c0_4]] w fun e w' => ∃ v2_ v4_ v5_ : Value,e = .returned (.tuple #[.agg #[.int .i64 r1,.int .i64 r2,v2_,.int .i64 r4,v4_],v5_]) ∧ Kd.R Kd.string 9 w' w.heap.size (fun k_ => some k_ ≠ (v4_ : Value).ownBlock) v2_ r3 ∧ Kd.R Kd.string 9 w' w.heap.size (fun k_ => some k_ ≠ (v2_ : Value).ownBlock) v4_ r5 ∧ Kd.R k36 36 w' w.heap.size (fun _ => True) v5_ r6 ∧ Below w.heap.size w w' := by
  have hu26 := Try.underlying26
  have hu36 := Try.underlying36
  have HR0_2 := zA hr0_2
  have HC0_2 := zA hc0_2
  clear hr0_2 hc0_2
  have HR0_4 := zA hr0_4
  have HC0_4 := zA hc0_4
  clear hr0_4 hc0_4
  have HB := zA (Below.refl w.heap.size w)
  have H : ((spec_l06Copy.f a0_0 a0_1 l0_2 a0_3 l0_4).bind fun bt258 => (spec_SendNew.l0 k (([] : List (S36))) a0_0 a0_1 l0_2 a0_3 l0_4 bt258.1 bt258.2.1 bt258.2.2.1 bt258.2.2.2.1 bt258.2.2.2.2)) = some (r1,r2,r3,r4,r5,r6) := h
  clear h
  replace H := Option.bind_eq_some_iff.mp H
  obtain ⟨⟨t258,t259,t260,t263,t264⟩,A20,H⟩ := H
  replace H : (spec_SendNew.l0 k (([] : List (S36))) a0_0 a0_1 l0_2 a0_3 l0_4 t258 t259 t260 t263 t264) = some (r1,r2,r3,r4,r5,r6) := H
  have A2 := zA A20
  clear A20
  obtain ⟨y268,hy268⟩ : ∃ y_ : List (S36),y_ = (([] : List (S36))) := ⟨_,rfl⟩
  replace H : (spec_SendNew.l0 k y268 a0_0 a0_1 l0_2 a0_3 l0_4 t258 t259 t260 t263 t264) = some (r1,r2,r3,r4,r5,r6) := by first | (rw [hy268]; with_reducible exact H) | (have H2_ := (Option.bind_some _ _).symm.trans H; rw [hy268]; with_reducible exact H2_) | (have H2_ := (Option.bind_some _ _).symm.trans H; with_reducible exact H2_)|with_reducible exact H | (rw [hy268]; exact H)|exact H
  have Ny268 := zA hy268
  clear hy268
  have H' := zA H
  clear H
  go_enter Try.func31,Try.ntmps31
  go_wp2_with (first | ((with_reducible refine gate_dst (N := 1) rfl ?_); (try (refine gate_guard (by rfl) ?_; dsimp only)); refine box_event ?hg (N := 1) ?hd (cs := #[.int .i64 a0_0,.int .i64 a0_1,.slice A0_2 l0_2.length c0_2,.int .i64 a0_3,.slice A0_4 l0_4.length c0_4]) (t := 26) ?hr ?_; (case hd => rfl); (case hg => rfl); (case hr => first | (go_simp; done) | (go_simp; rfl)); intro gb256 hg w3 hbox hb; have n0_ := zA (below_step (bT HB) hb); have n1_ := zA (hbox); have n2_ := zA ((by rw [hg]; exact (below_size (bT HB)) : w.heap.size ≤ gb256)); have n3_ := zA ((by rw [hg]; exact (below_size (bT HB)) : w.heap.size ≤ gb256)); clear HB; have HB := n0_; have BK256 := n1_; have GW256 := n2_; have GE256 := n3_; clear n0_ n1_ n2_ n3_ hb hbox hg) | ((with_reducible refine gate_dst (N := 2) rfl ?_); (try (refine gate_guard (by rfl) ?_; dsimp only)); refine box_event ?hg (N := 2) ?hd (cs := #[.int .i64 0,.int .i64 0,.slice none 0 0,.int .i64 0,.slice none 0 0]) (t := 26) ?hr ?_; (case hd => rfl); (case hg => rfl); (case hr => first | (go_simp; done) | (go_simp; rfl)); intro gb257 hg w4 hbox hb; have n0_ := zA (zG (bkT BK256.out) hb); have n1_ := zA (below_step (bT HB) hb); have n2_ := zA (hbox); have n3_ := zA ((by rw [hg]; exact (below_size (bT HB)) : w.heap.size ≤ gb257)); have n4_ := zA ((by rw [hg]; exact (below_size (bT HB)) : w.heap.size ≤ gb257)); have n5_ := zA ((by rw [hg]; exact Nat.ne_of_lt (blk_lt (g := gb256) (o := .cells #[.int .i64 a0_0,.int .i64 a0_1,.slice A0_2 l0_2.length c0_2,.int .i64 a0_3,.slice A0_4 l0_4.length c0_4] 26 (0,0)) (bkT BK256.out)) : gb256 ≠ gb257)); have n6_ := zA ((by rw [hg]; exact Nat.ne_of_gt (blk_lt (g := gb256) (o := .cells #[.int .i64 a0_0,.int .i64 a0_1,.slice A0_2 l0_2.length c0_2,.int .i64 a0_3,.slice A0_4 l0_4.length c0_4] 26 (0,0)) (bkT BK256.out)) : gb257 ≠ gb256)); clear BK256 HB; have BK256 := n0_; have HB := n1_; have BK257 := n2_; have GW257 := n3_; have GE257 := n4_; have NB256_257 := n5_; have NB257_256 := n6_; clear n0_ n1_ n2_ n3_ n4_ n5_ n6_ hb hbox hg; have hnb5 := NB256_257.out; have hnc5 := NB257_256.out; obtain ⟨_,_,_,_,_,_,_,_,_,_⟩ := cz5 BK256.out) | ((with_reducible refine gate_callee (f := 45) rfl ?_); refine goesL_ (some 7) rfl rfl Try.func45 (by kernel_rfl) rfl #[.agg #[.int .i64 a0_0,.int .i64 a0_1,.slice A0_2 l0_2.length c0_2,.int .i64 a0_3,.slice A0_4 l0_4.length c0_4]] rfl (by (try simp only [List.map_toArray,List.map_cons,List.map_nil]); first | done|rfl|(simp only [List.length_drop,List.length_take]; rfl)) ?_; (with_reducible refine (spec_l06Copy.calls a0_0 a0_1 _ _ l0_2 a0_3 _ _ l0_4 t258 t259 t260 t263 t264 _ ?side1 ?side2 ?side3 ?side4 A2.out).mono ?_); (case side1 => exact ccT (Kd.C_below HR0_2.out HB.out)); (case side2 => exact HC0_2.out); (case side3 => exact ccT (Kd.C_below HR0_4.out HB.out)); (case side4 => exact HC0_4.out); rintro e w7 ⟨v261,v265,rfl,ho0,ho1,hb⟩; refine ⟨_,rfl,?_⟩; have n0_ := zA (Kd.R_lower ho0 (below_size (bT HB))); have n1_ := zA (Kd.R_lower ho1 (below_size (bT HB))); have n2_ := zA (zG (bkT BK256.out) hb); have n3_ := zA (zG (bkT BK257.out) hb); have n4_ := zA (below_step (bT HB) hb); clear BK256 BK257 HB; have HO262 := n0_; have HO266 := n1_; have BK256 := n2_; have BK257 := n3_; have HB := n4_; clear n0_ n1_ n2_ n3_ n4_) | ((with_reducible refine gate_dst (N := 4) rfl ?_); (try (refine gate_guard (by rfl) ?_; dsimp only)); refine box_event ?hg (N := 4) ?hd (cs := #[.int .i64 0,.int .i64 0,.slice none 0 0,.int .i64 0,.slice none 0 0]) (t := 26) ?hr ?_; (case hd => rfl); (case hg => rfl); (case hr => first | (go_simp; done) | (go_simp; rfl)); intro gb267 hg w8 hbox hb; have n0_ := zA (zC (rrA10 HO262.out) hb); have n1_ := zA (zC (rrA10 HO266.out) hb); have n2_ := zA (zG (bkT BK256.out) hb); have n3_ := zA (zG (bkT BK257.out) hb); have n4_ := zA (below_step (bT HB) hb); have n5_ := zA (hbox); have n6_ := zA ((by rw [hg]; exact (below_size (bT HB)) : w.heap.size ≤ gb267)); have n7_ := zA ((by rw [hg]; exact (below_size (bT HB)) : w.heap.size ≤ gb267)); have n8_ := zA ((by rw [hg]; exact Nat.ne_of_lt (blk_lt (g := gb256) (o := .cells #[.int .i64 a0_0,.int .i64 a0_1,.slice A0_2 l0_2.length c0_2,.int .i64 a0_3,.slice A0_4 l0_4.length c0_4] 26 (0,0)) (bkT BK256.out)) : gb256 ≠ gb267)); have n9_ := zA ((by rw [hg]; exact Nat.ne_of_gt (blk_lt (g := gb256) (o := .cells #[.int .i64 a0_0,.int .i64 a0_1,.slice A0_2 l0_2.length c0_2,.int .i64 a0_3,.slice A0_4 l0_4.length c0_4] 26 (0,0)) (bkT BK256.out)) : gb267 ≠ gb256)); have n10_ := zA ((by rw [hg]; exact Nat.ne_of_lt (blk_lt (g := gb257) (o := .cells #[.int .i64 0,.int .i64 0,.slice none 0 0,.int .i64 0,.slice none 0 0] 26 (0,0)) (bkT BK257.out)) : gb257 ≠ gb267)); have n11_ := zA ((by rw [hg]; exact Nat.ne_of_gt (blk_lt (g := gb257) (o := .cells #[.int .i64 0,.int .i64 0,.slice none 0 0,.int .i64 0,.slice none 0 0] 26 (0,0)) (bkT BK257.out)) : gb267 ≠ gb257)); clear HO262 HO266 BK256 BK257 HB; have HO262 := n0_; have HO266 := n1_; have BK256 := n2_; have BK257 := n3_; have HB := n4_; have BK267 := n5_; have GW267 := n6_; have GE267 := n7_; have NB256_267 := n8_; have NB267_256 := n9_; have NB257_267 := n10_; have NB267_257 := n11_; clear n0_ n1_ n2_ n3_ n4_ n5_ n6_ n7_ n8_ n9_ n10_ n11_ hb hbox hg; have hnb9 := NB267_256.out; have hnc9 := NB256_267.out; have hnb10 := NB267_257.out; have hnc10 := NB257_267.out; obtain ⟨_,_,_,_,_,_,_,_,_,_⟩ := cz5 BK267.out; obtain ⟨Ao12,co12,eo12⟩ := Kd.R_slice HO262.out; subst eo12; obtain ⟨Ao13,co13,eo13⟩ := Kd.R_slice HO266.out; subst eo13) | ((with_reducible refine gate_dst (N := 8) rfl ?_); (try (refine gate_guard (by rfl) ?_; dsimp only)); refine Kd.R_lit k36 _ 36 ?hg (N := 8) ?hd (xs := ([] : List (S36))) (inner := []) (ok := fun _ => True) (okp := fun _ => True) ?hr ?hp (fun _ hk => hk) trivial (Below.refl _ _) (Nat.le_refl _) (by simp) ?_; (case hd => rfl); (case hg => rfl); (case hr => first | (go_simp; done) | (go_simp; rfl)); (case hp => exact (Reps.none _ _)); intro v269 w14 ho15 hb hg_ hnew_; clear hg_ hnew_; (first | rw [← Ny268.out] at ho15|(simp only [Int.reduceToNat] at ho15; rw [← Ny268.out] at ho15)); have n0_ := zA (zC (rrA10 (Kd.R_mono (zB (p := ⟨gb267,4,none⟩) (zB (p := ⟨gb267,3,none⟩) (zB (p := ⟨gb267,2,none⟩) (zB (p := ⟨gb267,1,none⟩) (zB (p := ⟨gb267,0,none⟩) (Kd.R_types HO262.out BK267.out (by decide)) (fun _ h=>h.2) (.int .i64 t258)) (fun _ h=>h.2) (.int .i64 t259)) (fun _ h=>h.2) (.slice Ao12 t260.length co12)) (fun _ h=>h.2) (.int .i64 t263)) (fun _ h=>h.2) (.slice Ao13 t264.length co13)) (fun _ h_ => h_.1))) hb); have n1_ := zA (zC (rrA10 (Kd.R_mono (zB (p := ⟨gb267,4,none⟩) (zB (p := ⟨gb267,3,none⟩) (zB (p := ⟨gb267,2,none⟩) (zB (p := ⟨gb267,1,none⟩) (zB (p := ⟨gb267,0,none⟩) (Kd.R_types HO266.out BK267.out (by decide)) (fun _ h=>h.2) (.int .i64 t258)) (fun _ h=>h.2) (.int .i64 t259)) (fun _ h=>h.2) (.slice Ao12 t260.length co12)) (fun _ h=>h.2) (.int .i64 t263)) (fun _ h=>h.2) (.slice Ao13 t264.length co13)) (fun _ h_ => h_.1))) hb); have n2_ := zA (Kd.R_lower ho15 (below_size (bT HB))); have n3_ := zA (zG (bkT BK256.out) hb); have n4_ := zA (zG (bkT BK257.out) hb); have n5_ := zA (zG (g := gb267) (o := .cells #[.int .i64 t258,.int .i64 t259,.slice Ao12 t260.length co12,.int .i64 t263,.slice Ao13 t264.length co13] 26 (0,0)) (by (with_reducible repeat (first|refine zD ?_ _|refine zF ?_|refine zE ?_ _)); refine blk_put (cs := #[.int .i64 t258,.int .i64 t259,.slice Ao12 t260.length co12,.int .i64 t263,.slice none 0 0]) ?_ 4 _ rfl; (with_reducible repeat (first|refine zD ?_ _|refine zF ?_|refine zE ?_ _)); refine blk_put (cs := #[.int .i64 t258,.int .i64 t259,.slice Ao12 t260.length co12,.int .i64 0,.slice none 0 0]) ?_ 3 _ rfl; (with_reducible repeat (first|refine zD ?_ _|refine zF ?_|refine zE ?_ _)); refine blk_put (cs := #[.int .i64 t258,.int .i64 t259,.slice none 0 0,.int .i64 0,.slice none 0 0]) ?_ 2 _ rfl; (with_reducible repeat (first|refine zD ?_ _|refine zF ?_|refine zE ?_ _)); refine blk_put (cs := #[.int .i64 t258,.int .i64 0,.slice none 0 0,.int .i64 0,.slice none 0 0]) ?_ 1 _ rfl; (with_reducible repeat (first|refine zD ?_ _|refine zF ?_|refine zE ?_ _)); refine blk_put (cs := #[.int .i64 0,.int .i64 0,.slice none 0 0,.int .i64 0,.slice none 0 0]) ?_ 0 _ rfl; (with_reducible repeat (first|refine zD ?_ _|refine zF ?_|refine zE ?_ _)); exact BK267.out) hb); have n6_ := zA (below_step (bT HB) hb); clear HO262 HO266 BK256 BK257 BK267 HB; have HO262 := n0_; have HO266 := n1_; have HO270 := n2_; have BK256 := n3_; have BK257 := n4_; have BK267 := n5_; have HB := n6_; clear n0_ n1_ n2_ n3_ n4_ n5_ n6_ hb ho15))
  go_loopg [5] k (fun kq v5 w' => ∃ (x5_1 : List (S36)) (x268000_1 : Int),Aside0 (spec_SendNew.l0 kq x5_1 a0_0 a0_1 l0_2 a0_3 l0_4 x268000_1 t259 t260 t263 t264 = some (r1,r2,r3,r4,r5,r6)) ∧ Aside0 (kq ≤ k) ∧ Aside0 (Kd.R k36 36 w' w.heap.size (fun _ => True) v5 x5_1) ∧ Aside0 (Kd.R Kd.string 9 w' w.heap.size (fun k_ => some k_ ≠ ((.slice Ao13 t264.length co13) : Value).ownBlock) (.slice Ao12 t260.length co12) t260) ∧ Aside0 (Kd.R Kd.string 9 w' w.heap.size (fun k_ => some k_ ≠ ((.slice Ao12 t260.length co12) : Value).ownBlock) (.slice Ao13 t264.length co13) t264) ∧ Aside0 (w'.heap[gb256]? = some (.cells #[.int .i64 a0_0,.int .i64 a0_1,(.slice A0_2 l0_2.length c0_2),.int .i64 a0_3,(.slice A0_4 l0_4.length c0_4)] 26 (0,0))) ∧ Aside0 (w'.heap[gb257]? = some (.cells #[.int .i64 0,.int .i64 0,(.slice none 0 0),.int .i64 0,(.slice none 0 0)] 26 (0,0))) ∧ Aside0 (w'.heap[gb267]? = some (.cells #[.int .i64 x268000_1,.int .i64 t259,(.slice Ao12 t260.length co12),.int .i64 t263,(.slice Ao13 t264.length co13)] 26 (0,0))) ∧ Aside0 (Below w.heap.size w w'))
  case atStart => exact ⟨(y268),(t258),H',⟨Nat.le_refl _⟩,⟨(rrA10 HO270.out)⟩,⟨(rrA10 HO262.out)⟩,⟨(rrA10 HO266.out)⟩,⟨(bkT BK256.out)⟩,⟨(bkT BK257.out)⟩,⟨(bkT BK267.out)⟩,⟨bT HB⟩⟩
  case round =>
   clear H'
   obtain ⟨x5_1,x268000_1,HA,HK1,HO_5,HO_268002,HO_268004,BK256,BK257,BK267,HB⟩ := hrel
   cases gk with
   | zero => exact absurd HA.out (by simp [spec_SendNew.l0])
   | succ k1 =>
    have H := HA.out
    clear HA
    simp only [spec_SendNew.l0] at H
    replace H := Option.bind_eq_some_iff.mp H
    obtain ⟨t271,A160,H⟩ := H
    replace H : (if t271 = true then (if x268000_1 < (wrap64 (t259 + 4)) then (if (wrap64 (x268000_1 - t259)) < (t260.length : Int) then (if 0 ≤ (wrap64 (x268000_1 - t259)) then (if x5_1.length < 4398046511104 then (spec_SendNew.l0 k1 (x5_1 ++ [(⟨wrap64 (x268000_1 + 1),t263,rdOf ByteArray.empty t260 (wrap64 (x268000_1 - t259))⟩ : S36)]) a0_0 a0_1 l0_2 a0_3 l0_4 (wrap64 (x268000_1 + 1)) t259 t260 t263 t264) else (none)) else (none)) else (some (x268000_1,t259,t260,t263,t264,x5_1))) else (some (x268000_1,t259,t260,t263,t264,x5_1))) else (some (x268000_1,t259,t260,t263,t264,x5_1))) = some (r1,r2,r3,r4,r5,r6) := H
    have A16 := zA A160
    clear A160
    by_cases c17 : t271 = true
    ·
     subst c17
     have H1 : (if x268000_1 < (wrap64 (t259 + 4)) then (if (wrap64 (x268000_1 - t259)) < (t260.length : Int) then (if 0 ≤ (wrap64 (x268000_1 - t259)) then (if x5_1.length < 4398046511104 then (spec_SendNew.l0 k1 (x5_1 ++ [(⟨wrap64 (x268000_1 + 1),t263,rdOf ByteArray.empty t260 (wrap64 (x268000_1 - t259))⟩ : S36)]) a0_0 a0_1 l0_2 a0_3 l0_4 (wrap64 (x268000_1 + 1)) t259 t260 t263 t264) else (none)) else (none)) else (some (x268000_1,t259,t260,t263,t264,x5_1))) else (some (x268000_1,t259,t260,t263,t264,x5_1))) = some (r1,r2,r3,r4,r5,r6) := by rw [if_pos rfl] at H; exact H
     clear H; have H := H1; clear H1
     by_cases c18 : x268000_1 < (wrap64 (t259 + 4))
     ·
      rw [if_pos c18] at H
      have c18b0 : decide (x268000_1 < (wrap64 (t259 + 4))) = true := decide_eq_true c18
      clear c18
      by_cases c19 : (wrap64 (x268000_1 - t259)) < (t260.length : Int)
      ·
       rw [if_pos c19] at H
       have c19b0 : decide ((wrap64 (x268000_1 - t259)) < (t260.length : Int)) = true := decide_eq_true c19
       clear c19
       obtain ⟨ji20,hji20⟩ : ∃ j_ : Int,(wrap64 (x268000_1 - t259)) = j_ := ⟨_,rfl⟩
       replace H : (if 0 ≤ (ji20) then (if x5_1.length < 4398046511104 then (spec_SendNew.l0 k1 (x5_1 ++ [(⟨wrap64 (x268000_1 + 1),t263,rdOf ByteArray.empty t260 (ji20)⟩ : S36)]) a0_0 a0_1 l0_2 a0_3 l0_4 (wrap64 (x268000_1 + 1)) t259 t260 t263 t264) else (none)) else (none)) = some (r1,r2,r3,r4,r5,r6) := by first | (rw [hji20] at H; exact H)|(simp only [hji20] at H ⊢; exact H)
       (try rw [hji20] at c19b0)
       (try rw [hji20] at A16)
       have hji20w : (IntKind.i64.wrap (x268000_1 - t259)) = ji20 := (i64_w _).trans hji20
       by_cases c21 : 0 ≤ (ji20)
       ·
        rw [if_pos c21] at H
        have c21b0 : decide (0 ≤ (ji20)) = true := decide_eq_true c21
        clear c21
        by_cases c22 : x5_1.length < 4398046511104
        ·
         rw [if_pos c22] at H
         have LMc22 := zA c22
         clear c22
         obtain ⟨y273,hy273⟩ : ∃ y_ : List (S36),y_ = (x5_1 ++ [(⟨wrap64 (x268000_1 + 1),t263,rdOf ByteArray.empty t260 (ji20)⟩ : S36)]) := ⟨_,rfl⟩
         replace H : (spec_SendNew.l0 k1 y273 a0_0 a0_1 l0_2 a0_3 l0_4 (wrap64 (x268000_1 + 1)) t259 t260 t263 t264) = some (r1,r2,r3,r4,r5,r6) := by first | (rw [hy273]; with_reducible exact H) | (have H2_ := (Option.bind_some _ _).symm.trans H; rw [hy273]; with_reducible exact H2_) | (have H2_ := (Option.bind_some _ _).symm.trans H; with_reducible exact H2_)|with_reducible exact H | (rw [hy273]; exact H)|exact H
         have Ny273 := zA hy273
         clear hy273
         have H' := zA H
         clear H
         have hnb23 := NB256_257.out
         have hnc23 := NB257_256.out
         have hnb24 := NB256_267.out
         have hnc24 := NB267_256.out
         obtain ⟨_,_,_,_,_,_,_,_,_,_⟩ := cz5 BK256.out
         try go_wp2_with (first | ((with_reducible refine gate_callee (f := 22) rfl ?_); refine goesL_ (some 10) rfl rfl Try.func22 (by kernel_rfl) rfl #[.agg #[.int .i64 a0_0,.int .i64 a0_1,.slice A0_2 l0_2.length c0_2,.int .i64 a0_3,.slice A0_4 l0_4.length c0_4]] rfl (by (try simp only [List.map_toArray,List.map_cons,List.map_nil]); first | done|rfl|(simp only [List.length_drop,List.length_take]; rfl)) ?_; (with_reducible refine (spec_EndOk.calls k1 a0_0 a0_1 _ _ l0_2 a0_3 _ _ l0_4 true _ ?side1 ?side2 ?side3 ?side4 A16.out).mono ?_); (case side1 => exact ccT (Kd.C_below HR0_2.out HB.out)); (case side2 => exact HC0_2.out); (case side3 => exact ccT (Kd.C_below HR0_4.out HB.out)); (case side4 => exact HC0_4.out); rintro e w26 ⟨rfl,hb⟩; refine ⟨_,rfl,?_⟩; have n0_ := zA (zC (rrA10 HO_5.out) hb); have n1_ := zA (zC (rrA10 HO_268002.out) hb); have n2_ := zA (zC (rrA10 HO_268004.out) hb); have n3_ := zA (zG (bkT BK256.out) hb); have n4_ := zA (zG (bkT BK257.out) hb); have n5_ := zA (zG (bkT BK267.out) hb); have n6_ := zA (below_step (bT HB) hb); clear HO_5 HO_268002 HO_268004 BK256 BK257 BK267 HB; have HO_5 := n0_; have HO_268002 := n1_; have HO_268004 := n2_; have BK256 := n3_; have BK257 := n4_; have BK267 := n5_; have HB := n6_; clear n0_ n1_ n2_ n3_ n4_ n5_ n6_; have hnb27 := NB267_257.out; have hnc27 := NB257_267.out; obtain ⟨_,_,_,_,_,_,_,_,_,_⟩ := cz5 BK267.out))
         have n0_ := zA (Kd.R_drew HO_5.out)
         have n1_ := zA (Kd.R_drew HO_268002.out)
         have n2_ := zA (Kd.R_drew HO_268004.out)
         have n3_ := zA (zF BK256.out)
         have n4_ := zA (zF BK257.out)
         have n5_ := zA (zF BK267.out)
         have n6_ := zA (below_drew1 HB.out)
         clear HO_5 HO_268002 HO_268004 BK256 BK257 BK267 HB
         have HO_5 := n0_
         have HO_268002 := n1_
         have HO_268004 := n2_
         have BK256 := n3_
         have BK257 := n4_
         have BK267 := n5_
         have HB := n6_
         clear n0_ n1_ n2_ n3_ n4_ n5_ n6_
         have p272 : 0 ≤ ((ji20) : Int) := of_decide_eq_true (by first|(with_reducible assumption) | assumption)
         have q272 : (ji20) < (t260.length : Int) := of_decide_eq_true (by first|(with_reducible assumption) | assumption)
         obtain ⟨ad272,e272,hx272_0⟩ := Kd.at_string (Kd.R_reads' HO_268002.out).2.2 (ji20) p272 q272
         cases e272
         replace p272 := eq_true p272
         replace q272 := eq_true q272
         refine start_ (n := 19) (S := fun w' => w'.cell? ⟨gb267,0,none⟩ = some (.int .i64 x268000_1) ∧ w'.cell? ⟨gb267,1,none⟩ = some (.int .i64 t259) ∧ w'.cell? ⟨gb267,2,none⟩ = some (.slice (some ad272) t260.length co12) ∧ w'.cell? ⟨gb267,3,none⟩ = some (.int .i64 t263) ∧ w'.cell? ⟨gb267,4,none⟩ = some (.slice Ao13 t264.length co13) ∧ w'.cell? (ad272.add ((ji20)).toNat) = some (.string (rdOf ByteArray.empty t260 (ji20)))) (ds := [16,17]) #[false,false,false,false,false,false,false,false,false,false,false,false,false,false,false,false,false,false,false] (by kernel_rfl) rfl rfl ⟨(blk_cell BK267.out 0).trans rfl,(blk_cell BK267.out 1).trans rfl,(blk_cell BK267.out 2).trans rfl,(blk_cell BK267.out 3).trans rfl,(blk_cell BK267.out 4).trans rfl,hx272_0⟩ (fun hHeld => ?_); refine with_tabW spec_SendNew.tab4 spec_SendNew.bits4 (fun HT_ HW_ => ?_)
         generalize w26.drew = w29 at HO_5 HO_268002 HO_268004 BK256 BK257 BK267 HB hx272_0 hHeld ⊢
         refine pure_ (i := 0) (N := some 30) (v := ?_) (a' := ?_) #[true,false,false,false,false,false,false,false,false,false,false,false,false,false,false,false,false,false,false] rfl rfl (any_of HT_.out (by kernel_rfl)) (fun _ _ _ h => h) (Or.inl ⟨by rfl,?_⟩) ?_ ?_; rotate_left
         · intro w'; go_simp; with_reducible rfl
         rotate_left
         · simp only [Act.put,List.setIfInBounds_toArray,List.set_cons_zero,List.set_cons_succ,i64_w,i32_w]; rfl
         refine pure_ (i := 1) (N := some 31) (v := ?_) (a' := ?_) #[true,true,false,false,false,false,false,false,false,false,false,false,false,false,false,false,false,false,false] rfl rfl (any_of HT_.out (by kernel_rfl)) (fun _ _ _ h => h) (Or.inl ⟨by rfl,?_⟩) ?_ ?_; rotate_left
         · intro w'; go_simp; with_reducible rfl
         rotate_left
         · simp only [Act.put,List.setIfInBounds_toArray,List.set_cons_zero,List.set_cons_succ,i64_w,i32_w]; rfl
         refine pure_ (i := 4) (N := some 34) (v := ?_) (a' := ?_) #[true,true,false,false,true,false,false,false,false,false,false,false,false,false,false,false,false,false,false] rfl rfl (any_of HT_.out (by kernel_rfl)) (fun _ _ _ h => h) (Or.inl ⟨by rfl,?_⟩) ?_ ?_; rotate_left
         · intro w'; go_simp; with_reducible rfl
         rotate_left
         · simp only [Act.put,List.setIfInBounds_toArray,List.set_cons_zero,List.set_cons_succ,i64_w,i32_w]; rfl
         refine pure_ (i := 6) (N := some 36) (v := ?_) (a' := ?_) #[true,true,false,false,true,false,true,false,false,false,false,false,false,false,false,false,false,false,false] rfl rfl (any_of HT_.out (by kernel_rfl)) (fun _ _ _ h => h) (Or.inl ⟨by rfl,?_⟩) ?_ ?_; rotate_left
         · intro w'; go_simp; with_reducible rfl
         rotate_left
         · simp only [Act.put,List.setIfInBounds_toArray,List.set_cons_zero,List.set_cons_succ,i64_w,i32_w]; rfl
         refine pure_ (i := 8) (N := some 38) (v := ?_) (a' := ?_) #[true,true,false,false,true,false,true,false,true,false,false,false,false,false,false,false,false,false,false] rfl rfl (any_of HT_.out (by kernel_rfl)) (fun _ _ _ h => h) (Or.inl ⟨by rfl,?_⟩) ?_ ?_; rotate_left
         · intro w'; go_simp; with_reducible rfl
         rotate_left
         · simp only [Act.put,List.setIfInBounds_toArray,List.set_cons_zero,List.set_cons_succ,i64_w,i32_w]; rfl
         refine pure_ (i := 10) (N := some 40) (v := ?_) (a' := ?_) #[true,true,false,false,true,false,true,false,true,false,true,false,false,false,false,false,false,false,false] rfl rfl (any_of HT_.out (by kernel_rfl)) (fun _ _ _ h => h) (Or.inl ⟨by rfl,?_⟩) ?_ ?_; rotate_left
         · intro w'; go_simp; with_reducible rfl
         rotate_left
         · simp only [Act.put,List.setIfInBounds_toArray,List.set_cons_zero,List.set_cons_succ,i64_w,i32_w]; rfl
         refine take_ (i := 2) (N := some 32) (v := ?_) (a' := ?_) #[true,true,true,false,true,false,true,false,true,false,true,false,false,false,false,false,false,false,false] rfl rfl (take_ofW HT_.out HW_.out (by kernel_rfl)) (fun _ _ _ h => h) (Or.inl ⟨by rfl,?_⟩) hHeld ?_ ?_; rotate_left
         ·
          rintro w' ⟨s0,s1,s2,s3,s4,s5⟩
          go_simp; with_reducible rfl
         rotate_left
         · simp only [Act.put,List.setIfInBounds_toArray,List.set_cons_zero,List.set_cons_succ,i64_w,i32_w]; rfl
         refine pure_ (i := 3) (N := some 33) (v := ?_) (a' := ?_) #[true,true,true,true,true,false,true,false,true,false,true,false,false,false,false,false,false,false,false] rfl rfl (any_of HT_.out (by kernel_rfl)) (fun _ _ _ h => h) (Or.inl ⟨by rfl,?_⟩) ?_ ?_; rotate_left
         · intro w'; go_simp; with_reducible rfl
         rotate_left
         · simp only [Act.put,List.setIfInBounds_toArray,List.set_cons_zero,List.set_cons_succ,i64_w,i32_w]; rfl
         refine take_ (i := 5) (N := some 35) (v := ?_) (a' := ?_) #[true,true,true,true,true,true,true,false,true,false,true,false,false,false,false,false,false,false,false] rfl rfl (take_ofW HT_.out HW_.out (by kernel_rfl)) (fun _ _ _ h => h) (Or.inl ⟨by rfl,?_⟩) hHeld ?_ ?_; rotate_left
         ·
          rintro w' ⟨s0,s1,s2,s3,s4,s5⟩
          go_simp; with_reducible rfl
         rotate_left
         · simp only [Act.put,List.setIfInBounds_toArray,List.set_cons_zero,List.set_cons_succ,i64_w,i32_w]; rfl
         refine take_ (i := 7) (N := some 37) (v := ?_) (a' := ?_) #[true,true,true,true,true,true,true,true,true,false,true,false,false,false,false,false,false,false,false] rfl rfl (take_ofW HT_.out HW_.out (by kernel_rfl)) (fun _ _ _ h => h) (Or.inl ⟨by rfl,?_⟩) hHeld ?_ ?_; rotate_left
         ·
          rintro w' ⟨s0,s1,s2,s3,s4,s5⟩
          go_simp; with_reducible rfl
         rotate_left
         · simp only [Act.put,List.setIfInBounds_toArray,List.set_cons_zero,List.set_cons_succ,i64_w,i32_w]; rfl
         refine take_ (i := 9) (N := some 39) (v := ?_) (a' := ?_) #[true,true,true,true,true,true,true,true,true,true,true,false,false,false,false,false,false,false,false] rfl rfl (take_ofW HT_.out HW_.out (by kernel_rfl)) (fun _ _ _ h => h) (Or.inl ⟨by rfl,?_⟩) hHeld ?_ ?_; rotate_left
         ·
          rintro w' ⟨s0,s1,s2,s3,s4,s5⟩
          go_simp; with_reducible rfl
         rotate_left
         · simp only [Act.put,List.setIfInBounds_toArray,List.set_cons_zero,List.set_cons_succ,i64_w,i32_w]; rfl
         refine take_ (i := 11) (N := some 41) (v := ?_) (a' := ?_) #[true,true,true,true,true,true,true,true,true,true,true,true,false,false,false,false,false,false,false] rfl rfl (take_ofW HT_.out HW_.out (by kernel_rfl)) (fun _ _ _ h => h) (Or.inl ⟨by rfl,?_⟩) hHeld ?_ ?_; rotate_left
         ·
          rintro w' ⟨s0,s1,s2,s3,s4,s5⟩
          go_simp; with_reducible rfl
         rotate_left
         · simp only [Act.put,List.setIfInBounds_toArray,List.set_cons_zero,List.set_cons_succ,i64_w,i32_w]; rfl
         refine pure_ (i := 12) (N := some 42) (v := ?_) (a' := ?_) #[true,true,true,true,true,true,true,true,true,true,true,true,true,false,false,false,false,false,false] rfl rfl (any_of HT_.out (by kernel_rfl)) (fun _ _ _ h => h) (Or.inl ⟨by rfl,?_⟩) ?_ ?_; rotate_left
         · intro w'; go_simp; with_reducible rfl
         rotate_left
         · simp only [Act.put,List.setIfInBounds_toArray,List.set_cons_zero,List.set_cons_succ,i64_w,i32_w]; rfl
         refine pure_ (i := 13) (N := some 43) (v := ?_) (a' := ?_) #[true,true,true,true,true,true,true,true,true,true,true,true,true,true,false,false,false,false,false] rfl rfl (any_of HT_.out (by kernel_rfl)) (fun _ _ _ h => h) (Or.inl ⟨by rfl,?_⟩) ?_ ?_; rotate_left
         · intro w'; go_simp; with_reducible rfl
         rotate_left
         · simp only [Act.put,List.setIfInBounds_toArray,List.set_cons_zero,List.set_cons_succ,i64_w,i32_w]; rfl
         refine take_ (i := 14) (N := some 44) (v := ?_) (a' := ?_) #[true,true,true,true,true,true,true,true,true,true,true,true,true,true,true,false,false,false,false] rfl rfl (take_ofW HT_.out HW_.out (by kernel_rfl)) (fun _ _ _ h => h) (Or.inl ⟨by rfl,?_⟩) hHeld ?_ ?_; rotate_left
         ·
          rintro w' ⟨s0,s1,s2,s3,s4,s5⟩
          go_simp; with_reducible rfl
         rotate_left
         · simp only [Act.put,List.setIfInBounds_toArray,List.set_cons_zero,List.set_cons_succ,i64_w,i32_w]; rfl
         refine pure_ (i := 15) (N := some 45) (v := ?_) (a' := ?_) #[true,true,true,true,true,true,true,true,true,true,true,true,true,true,true,true,false,false,false] rfl rfl (any_of HT_.out (by kernel_rfl)) (fun _ _ _ h => h) (Or.inl ⟨by rfl,?_⟩) ?_ ?_; rotate_left
         · intro w'; go_simp; with_reducible rfl
         rotate_left
         · simp only [Act.put,List.setIfInBounds_toArray,List.set_cons_zero,List.set_cons_succ,i64_w,i32_w]; rfl
         refine last_ (i := 16) (N := some 46) #[true,true,true,true,true,true,true,true,true,true,true,true,true,true,true,true,true,false,false] rfl rfl (one_of HT_.out (by kernel_rfl)) (by decide) (fun K hK => ?_)
         refine value_ (w1 := ?_) (v := ?_) (by rfl) rfl ?_ ?_
         rotate_left 2
         ·
          go_simp
          constructor
          · rfl
          · rfl
         refine hK.out _ _ ?_
         clear hK K
         refine norm_ (a' := ?_) ?_ ?_
         rotate_left
         ·
          show Act.put _ (some 46) _ = _
          simp only [Act.put,List.setIfInBounds_toArray,List.set_cons_zero,List.set_cons_succ,i64_w,i32_w]; rfl
         refine last_ (i := 17) (N := some 47) #[true,true,true,true,true,true,true,true,true,true,true,true,true,true,true,true,true,true,false] rfl rfl (one_of HT_.out (by kernel_rfl)) (by decide) (fun K hK => ?_)
         refine Kd.R_append_step k36 (w0 := w) w.heap.size (by rfl) (.tmp 30) (.tmp 46) 45 36 (.agg #[(.int .i64 0),(.int .i64 0),(.string ⟨#[]⟩)]) 32 rfl Try.underlying45 info36 rfl (by decide) (by omega) u5 x5_1 (⟨wrap64 (x268000_1 + 1),t263,rdOf ByteArray.empty t260 (ji20)⟩ : S36) [.int .i64 (wrap64 (x268000_1 + 1)),.int .i64 t263,.string (rdOf ByteArray.empty t260 (ji20))] (fun _ => True) (fun _ => False) rfl rfl ?aP (fun _ hk => hk.elim) ?aF ?aO ?aB ?aS ?aL ?_
         (case aP => exact k36_mkM _ _ _ (⟨wrap64 (x268000_1 + 1),t263,rdOf ByteArray.empty t260 (ji20)⟩ : S36))
         (case aB => exact (bT HB))
         (case aF => exact (fun _ _ => trivial))
         (case aO => exact (rrA10 HO_5.out))
         (case aS => exact (below_size (bT HB)))
         (case aL => have := LMc22.out; omega)
         intro v274 w30 ho hb hg hat
         rw [← Ny273.out] at ho
         have n0_ := zA (Kd.R_over' (rrA10 HO_268002.out) (Kd.R_typed (rrA10 HO_5.out)) (by decide) hg)
         have n1_ := zA (Kd.R_over' (rrA10 HO_268004.out) (Kd.R_typed (rrA10 HO_5.out)) (by decide) hg)
         have n2_ := zA (blk_grown (bkT BK256.out) hg (Kd.R_ne HO_5.out BK256.out (by decide)))
         have n3_ := zA (blk_grown (bkT BK257.out) hg (Kd.R_ne HO_5.out BK257.out (by decide)))
         have n4_ := zA (blk_grown (bkT BK267.out) hg (Kd.R_ne HO_5.out BK267.out (by decide)))
         have n5_ := zA (hb)
         have n6_ := zA (ho)
         clear HO_268002 HO_268004 BK256 BK257 BK267 HB HO_5
         have HO_268002 := n0_
         have HO_268004 := n1_
         have BK256 := n2_
         have BK257 := n3_
         have BK267 := n4_
         have HB := n5_
         have HO275 := n6_
         clear n0_ n1_ n2_ n3_ n4_ n5_ n6_ ho hb hg hat
         refine hK.out _ _ ?_
         clear hK K
         refine norm_ (a' := ?_) ?_ ?_
         rotate_left
         ·
          show Act.put _ (some 47) _ = _
          simp only [Act.put,List.setIfInBounds_toArray,List.set_cons_zero,List.set_cons_succ,i64_w,i32_w]; rfl
         refine pure_ (i := 18) (N := some 5) (v := ?_) (a' := ?_) #[true,true,true,true,true,true,true,true,true,true,true,true,true,true,true,true,true,true,true] rfl rfl (any_of HT_.out (by kernel_rfl)) (fun _ _ _ h => h) (Or.inl ⟨by rfl,?_⟩) ?_ ?_; rotate_left
         · intro w'; go_simp; with_reducible rfl
         rotate_left
         · simp only [Act.put,List.setIfInBounds_toArray,List.set_cons_zero,List.set_cons_succ,i64_w,i32_w]; rfl
         refine done_ (done_of HT_.out (by kernel_rfl)) ?_
         obtain ⟨_,_,_,_,_,_,_,_,_,_⟩ := cz5 BK267.out
         try go_wp2
         go_roundg k1
         case measure => have := HK1.out; omega
         case rel => exact ⟨(y273),(wrap64 (x268000_1 + 1)),H',⟨by have := HK1.out; omega⟩,⟨by (with_reducible repeat (first|apply Kd.R_alloc|apply Kd.R_drewN|apply Kd.R_drew)); exact Kd.R_mono (zB (p := ⟨gb267,0,none⟩) (Kd.R_types HO275.out BK267.out (by decide)) (fun _ h=>h.2) (.int .i64 (wrap64 (x268000_1 + 1)))) (fun _ hk => trivial)⟩,⟨by (with_reducible repeat (first|apply Kd.R_alloc|apply Kd.R_drewN|apply Kd.R_drew)); exact Kd.R_mono (zB (p := ⟨gb267,0,none⟩) (Kd.R_types HO_268002.out BK267.out (by decide)) (fun _ h=>h.2) (.int .i64 (wrap64 (x268000_1 + 1)))) (fun _ hk => hk.1)⟩,⟨by (with_reducible repeat (first|apply Kd.R_alloc|apply Kd.R_drewN|apply Kd.R_drew)); exact Kd.R_mono (zB (p := ⟨gb267,0,none⟩) (Kd.R_types HO_268004.out BK267.out (by decide)) (fun _ h=>h.2) (.int .i64 (wrap64 (x268000_1 + 1)))) (fun _ hk => hk.1)⟩,⟨(bkT BK256.out)⟩,⟨(bkT BK257.out)⟩,⟨by (with_reducible repeat (first|refine zD ?_ _|refine zF ?_|refine zE ?_ _)); refine blk_put (cs := #[.int .i64 x268000_1,.int .i64 t259,.slice (some ad272) t260.length co12,.int .i64 t263,.slice Ao13 t264.length co13]) ?_ 0 _ rfl; (with_reducible repeat (first|refine zD ?_ _|refine zF ?_|refine zE ?_ _)); exact BK267.out⟩,⟨bT HB⟩⟩
        ·
         rw [if_neg c22] at H
         exact absurd H (by simp)
       ·
        rw [if_neg c21] at H
        exact absurd H (by simp)
      ·
       rw [if_neg c19] at H
       have c19b0 : decide ((wrap64 (x268000_1 - t259)) < (t260.length : Int)) = false := decide_eq_false c19
       clear c19
       simp only [Option.some.injEq,Prod.mk.injEq] at H
       obtain ⟨rfl,rfl,rfl,rfl,rfl,rfl⟩ := H
       have hnb32 := NB256_257.out
       have hnc32 := NB257_256.out
       have hnb33 := NB256_267.out
       have hnc33 := NB267_256.out
       obtain ⟨_,_,_,_,_,_,_,_,_,_⟩ := cz5 BK256.out
       go_wp2_with (first | ((with_reducible refine gate_callee (f := 22) rfl ?_); refine goesL_ (some 10) rfl rfl Try.func22 (by kernel_rfl) rfl #[.agg #[.int .i64 a0_0,.int .i64 a0_1,.slice A0_2 l0_2.length c0_2,.int .i64 a0_3,.slice A0_4 l0_4.length c0_4]] rfl (by (try simp only [List.map_toArray,List.map_cons,List.map_nil]); first | done|rfl|(simp only [List.length_drop,List.length_take]; rfl)) ?_; (with_reducible refine (spec_EndOk.calls k1 a0_0 a0_1 _ _ l0_2 a0_3 _ _ l0_4 true _ ?side1 ?side2 ?side3 ?side4 A16.out).mono ?_); (case side1 => exact ccT (Kd.C_below HR0_2.out HB.out)); (case side2 => exact HC0_2.out); (case side3 => exact ccT (Kd.C_below HR0_4.out HB.out)); (case side4 => exact HC0_4.out); rintro e w35 ⟨rfl,hb⟩; refine ⟨_,rfl,?_⟩; have n0_ := zA (zC (rrA10 HO_5.out) hb); have n1_ := zA (zC (rrA10 HO_268002.out) hb); have n2_ := zA (zC (rrA10 HO_268004.out) hb); have n3_ := zA (zG (bkT BK256.out) hb); have n4_ := zA (zG (bkT BK257.out) hb); have n5_ := zA (zG (bkT BK267.out) hb); have n6_ := zA (below_step (bT HB) hb); clear HO_5 HO_268002 HO_268004 BK256 BK257 BK267 HB; have HO_5 := n0_; have HO_268002 := n1_; have HO_268004 := n2_; have BK256 := n3_; have BK257 := n4_; have BK267 := n5_; have HB := n6_; clear n0_ n1_ n2_ n3_ n4_ n5_ n6_; have hnb36 := NB267_257.out; have hnc36 := NB257_267.out; obtain ⟨_,_,_,_,_,_,_,_,_,_⟩ := cz5 BK267.out; obtain ⟨_,_,_,_,_,_,_,_,_,_⟩ := cz5 BK257.out))
       refine bodyPost_ret (results_ct rfl _ _ gb257 26 #[.int .i64 x268000_1,.int .i64 t259,.slice Ao12 t260.length co12,.int .i64 t263,.slice Ao13 t264.length co13] (0,0) _ rfl (by (with_reducible repeat (first|refine zD ?_ _|refine zF ?_|refine zE ?_ _)); refine blk_put (cs := #[.int .i64 x268000_1,.int .i64 t259,.slice Ao12 t260.length co12,.int .i64 t263,.slice none 0 0]) ?_ 4 _ rfl; (with_reducible repeat (first|refine zD ?_ _|refine zF ?_|refine zE ?_ _)); refine blk_put (cs := #[.int .i64 x268000_1,.int .i64 t259,.slice Ao12 t260.length co12,.int .i64 0,.slice none 0 0]) ?_ 3 _ rfl; (with_reducible repeat (first|refine zD ?_ _|refine zF ?_|refine zE ?_ _)); refine blk_put (cs := #[.int .i64 x268000_1,.int .i64 t259,.slice none 0 0,.int .i64 0,.slice none 0 0]) ?_ 2 _ rfl; (with_reducible repeat (first|refine zD ?_ _|refine zF ?_|refine zE ?_ _)); refine blk_put (cs := #[.int .i64 x268000_1,.int .i64 0,.slice none 0 0,.int .i64 0,.slice none 0 0]) ?_ 1 _ rfl; (with_reducible repeat (first|refine zD ?_ _|refine zF ?_|refine zE ?_ _)); refine blk_put (cs := #[.int .i64 0,.int .i64 0,.slice none 0 0,.int .i64 0,.slice none 0 0]) ?_ 0 _ rfl; (with_reducible repeat (first|refine zD ?_ _|refine zF ?_|refine zE ?_ _)); exact BK257.out) Try.underlying26 rfl (by kernel_rfl)) rfl ?_
       exact ⟨_,_,_,by first|rfl|(simp [errW_none,errW_some] <;> rfl)|(simp [*,errW_none,errW_some] <;> rfl),by (with_reducible repeat (first|apply Kd.R_alloc|apply Kd.R_drewN|apply Kd.R_drew)); exact Kd.R_mono (zB (p := ⟨gb257,4,none⟩) (zB (p := ⟨gb257,3,none⟩) (zB (p := ⟨gb257,2,none⟩) (zB (p := ⟨gb257,1,none⟩) (zB (p := ⟨gb257,0,none⟩) (Kd.R_types HO_268002.out BK257.out (by decide)) (fun _ h=>h.2) (.int .i64 x268000_1)) (fun _ h=>h.2) (.int .i64 t259)) (fun _ h=>h.2) (.slice Ao12 t260.length co12)) (fun _ h=>h.2) (.int .i64 t263)) (fun _ h=>h.2) (.slice Ao13 t264.length co13)) (fun _ hk => hk.1),by (with_reducible repeat (first|apply Kd.R_alloc|apply Kd.R_drewN|apply Kd.R_drew)); exact Kd.R_mono (zB (p := ⟨gb257,4,none⟩) (zB (p := ⟨gb257,3,none⟩) (zB (p := ⟨gb257,2,none⟩) (zB (p := ⟨gb257,1,none⟩) (zB (p := ⟨gb257,0,none⟩) (Kd.R_types HO_268004.out BK257.out (by decide)) (fun _ h=>h.2) (.int .i64 x268000_1)) (fun _ h=>h.2) (.int .i64 t259)) (fun _ h=>h.2) (.slice Ao12 t260.length co12)) (fun _ h=>h.2) (.int .i64 t263)) (fun _ h=>h.2) (.slice Ao13 t264.length co13)) (fun _ hk => hk.1),by (with_reducible repeat (first|apply Kd.R_alloc|apply Kd.R_drewN|apply Kd.R_drew)); exact Kd.R_mono (zB (p := ⟨gb257,4,none⟩) (zB (p := ⟨gb257,3,none⟩) (zB (p := ⟨gb257,2,none⟩) (zB (p := ⟨gb257,1,none⟩) (zB (p := ⟨gb257,0,none⟩) (Kd.R_types HO_5.out BK257.out (by decide)) (fun _ h=>h.2) (.int .i64 x268000_1)) (fun _ h=>h.2) (.int .i64 t259)) (fun _ h=>h.2) (.slice Ao12 t260.length co12)) (fun _ h=>h.2) (.int .i64 t263)) (fun _ h=>h.2) (.slice Ao13 t264.length co13)) (fun _ hk => trivial),bT HB⟩
     ·
      rw [if_neg c18] at H
      have c18b0 : decide (x268000_1 < (wrap64 (t259 + 4))) = false := decide_eq_false c18
      clear c18
      simp only [Option.some.injEq,Prod.mk.injEq] at H
      obtain ⟨rfl,rfl,rfl,rfl,rfl,rfl⟩ := H
      have hnb39 := NB256_257.out
      have hnc39 := NB257_256.out
      have hnb40 := NB256_267.out
      have hnc40 := NB267_256.out
      obtain ⟨_,_,_,_,_,_,_,_,_,_⟩ := cz5 BK256.out
      go_wp2_with (first | ((with_reducible refine gate_callee (f := 22) rfl ?_); refine goesL_ (some 10) rfl rfl Try.func22 (by kernel_rfl) rfl #[.agg #[.int .i64 a0_0,.int .i64 a0_1,.slice A0_2 l0_2.length c0_2,.int .i64 a0_3,.slice A0_4 l0_4.length c0_4]] rfl (by (try simp only [List.map_toArray,List.map_cons,List.map_nil]); first | done|rfl|(simp only [List.length_drop,List.length_take]; rfl)) ?_; (with_reducible refine (spec_EndOk.calls k1 a0_0 a0_1 _ _ l0_2 a0_3 _ _ l0_4 true _ ?side1 ?side2 ?side3 ?side4 A16.out).mono ?_); (case side1 => exact ccT (Kd.C_below HR0_2.out HB.out)); (case side2 => exact HC0_2.out); (case side3 => exact ccT (Kd.C_below HR0_4.out HB.out)); (case side4 => exact HC0_4.out); rintro e w42 ⟨rfl,hb⟩; refine ⟨_,rfl,?_⟩; have n0_ := zA (zC (rrA10 HO_5.out) hb); have n1_ := zA (zC (rrA10 HO_268002.out) hb); have n2_ := zA (zC (rrA10 HO_268004.out) hb); have n3_ := zA (zG (bkT BK256.out) hb); have n4_ := zA (zG (bkT BK257.out) hb); have n5_ := zA (zG (bkT BK267.out) hb); have n6_ := zA (below_step (bT HB) hb); clear HO_5 HO_268002 HO_268004 BK256 BK257 BK267 HB; have HO_5 := n0_; have HO_268002 := n1_; have HO_268004 := n2_; have BK256 := n3_; have BK257 := n4_; have BK267 := n5_; have HB := n6_; clear n0_ n1_ n2_ n3_ n4_ n5_ n6_; have hnb43 := NB267_257.out; have hnc43 := NB257_267.out; obtain ⟨_,_,_,_,_,_,_,_,_,_⟩ := cz5 BK267.out; obtain ⟨_,_,_,_,_,_,_,_,_,_⟩ := cz5 BK257.out))
      refine bodyPost_ret (results_ct rfl _ _ gb257 26 #[.int .i64 x268000_1,.int .i64 t259,.slice Ao12 t260.length co12,.int .i64 t263,.slice Ao13 t264.length co13] (0,0) _ rfl (by (with_reducible repeat (first|refine zD ?_ _|refine zF ?_|refine zE ?_ _)); refine blk_put (cs := #[.int .i64 x268000_1,.int .i64 t259,.slice Ao12 t260.length co12,.int .i64 t263,.slice none 0 0]) ?_ 4 _ rfl; (with_reducible repeat (first|refine zD ?_ _|refine zF ?_|refine zE ?_ _)); refine blk_put (cs := #[.int .i64 x268000_1,.int .i64 t259,.slice Ao12 t260.length co12,.int .i64 0,.slice none 0 0]) ?_ 3 _ rfl; (with_reducible repeat (first|refine zD ?_ _|refine zF ?_|refine zE ?_ _)); refine blk_put (cs := #[.int .i64 x268000_1,.int .i64 t259,.slice none 0 0,.int .i64 0,.slice none 0 0]) ?_ 2 _ rfl; (with_reducible repeat (first|refine zD ?_ _|refine zF ?_|refine zE ?_ _)); refine blk_put (cs := #[.int .i64 x268000_1,.int .i64 0,.slice none 0 0,.int .i64 0,.slice none 0 0]) ?_ 1 _ rfl; (with_reducible repeat (first|refine zD ?_ _|refine zF ?_|refine zE ?_ _)); refine blk_put (cs := #[.int .i64 0,.int .i64 0,.slice none 0 0,.int .i64 0,.slice none 0 0]) ?_ 0 _ rfl; (with_reducible repeat (first|refine zD ?_ _|refine zF ?_|refine zE ?_ _)); exact BK257.out) Try.underlying26 rfl (by kernel_rfl)) rfl ?_
      exact ⟨_,_,_,by first|rfl|(simp [errW_none,errW_some] <;> rfl)|(simp [*,errW_none,errW_some] <;> rfl),by (with_reducible repeat (first|apply Kd.R_alloc|apply Kd.R_drewN|apply Kd.R_drew)); exact Kd.R_mono (zB (p := ⟨gb257,4,none⟩) (zB (p := ⟨gb257,3,none⟩) (zB (p := ⟨gb257,2,none⟩) (zB (p := ⟨gb257,1,none⟩) (zB (p := ⟨gb257,0,none⟩) (Kd.R_types HO_268002.out BK257.out (by decide)) (fun _ h=>h.2) (.int .i64 x268000_1)) (fun _ h=>h.2) (.int .i64 t259)) (fun _ h=>h.2) (.slice Ao12 t260.length co12)) (fun _ h=>h.2) (.int .i64 t263)) (fun _ h=>h.2) (.slice Ao13 t264.length co13)) (fun _ hk => hk.1),by (with_reducible repeat (first|apply Kd.R_alloc|apply Kd.R_drewN|apply Kd.R_drew)); exact Kd.R_mono (zB (p := ⟨gb257,4,none⟩) (zB (p := ⟨gb257,3,none⟩) (zB (p := ⟨gb257,2,none⟩) (zB (p := ⟨gb257,1,none⟩) (zB (p := ⟨gb257,0,none⟩) (Kd.R_types HO_268004.out BK257.out (by decide)) (fun _ h=>h.2) (.int .i64 x268000_1)) (fun _ h=>h.2) (.int .i64 t259)) (fun _ h=>h.2) (.slice Ao12 t260.length co12)) (fun _ h=>h.2) (.int .i64 t263)) (fun _ h=>h.2) (.slice Ao13 t264.length co13)) (fun _ hk => hk.1),by (with_reducible repeat (first|apply Kd.R_alloc|apply Kd.R_drewN|apply Kd.R_drew)); exact Kd.R_mono (zB (p := ⟨gb257,4,none⟩) (zB (p := ⟨gb257,3,none⟩) (zB (p := ⟨gb257,2,none⟩) (zB (p := ⟨gb257,1,none⟩) (zB (p := ⟨gb257,0,none⟩) (Kd.R_types HO_5.out BK257.out (by decide)) (fun _ h=>h.2) (.int .i64 x268000_1)) (fun _ h=>h.2) (.int .i64 t259)) (fun _ h=>h.2) (.slice Ao12 t260.length co12)) (fun _ h=>h.2) (.int .i64 t263)) (fun _ h=>h.2) (.slice Ao13 t264.length co13)) (fun _ hk => trivial),bT HB⟩
    ·
     replace c17 := Bool.eq_false_iff.mpr c17
     subst c17
     have H1 : (some (x268000_1,t259,t260,t263,t264,x5_1)) = some (r1,r2,r3,r4,r5,r6) := by rw [if_neg (show ¬ (false = true) by decide)] at H; exact H
     clear H; have H := H1; clear H1
     simp only [Option.some.injEq,Prod.mk.injEq] at H
     obtain ⟨rfl,rfl,rfl,rfl,rfl,rfl⟩ := H
     have hnb46 := NB256_257.out
     have hnc46 := NB257_256.out
     have hnb47 := NB256_267.out
     have hnc47 := NB267_256.out
     obtain ⟨_,_,_,_,_,_,_,_,_,_⟩ := cz5 BK256.out
     go_wp2_with (first | ((with_reducible refine gate_callee (f := 22) rfl ?_); refine goesL_ (some 10) rfl rfl Try.func22 (by kernel_rfl) rfl #[.agg #[.int .i64 a0_0,.int .i64 a0_1,.slice A0_2 l0_2.length c0_2,.int .i64 a0_3,.slice A0_4 l0_4.length c0_4]] rfl (by (try simp only [List.map_toArray,List.map_cons,List.map_nil]); first | done|rfl|(simp only [List.length_drop,List.length_take]; rfl)) ?_; (with_reducible refine (spec_EndOk.calls k1 a0_0 a0_1 _ _ l0_2 a0_3 _ _ l0_4 false _ ?side1 ?side2 ?side3 ?side4 A16.out).mono ?_); (case side1 => exact ccT (Kd.C_below HR0_2.out HB.out)); (case side2 => exact HC0_2.out); (case side3 => exact ccT (Kd.C_below HR0_4.out HB.out)); (case side4 => exact HC0_4.out); rintro e w49 ⟨rfl,hb⟩; refine ⟨_,rfl,?_⟩; have n0_ := zA (zC (rrA10 HO_5.out) hb); have n1_ := zA (zC (rrA10 HO_268002.out) hb); have n2_ := zA (zC (rrA10 HO_268004.out) hb); have n3_ := zA (zG (bkT BK256.out) hb); have n4_ := zA (zG (bkT BK257.out) hb); have n5_ := zA (zG (bkT BK267.out) hb); have n6_ := zA (below_step (bT HB) hb); clear HO_5 HO_268002 HO_268004 BK256 BK257 BK267 HB; have HO_5 := n0_; have HO_268002 := n1_; have HO_268004 := n2_; have BK256 := n3_; have BK257 := n4_; have BK267 := n5_; have HB := n6_; clear n0_ n1_ n2_ n3_ n4_ n5_ n6_; have hnb50 := NB267_257.out; have hnc50 := NB257_267.out; obtain ⟨_,_,_,_,_,_,_,_,_,_⟩ := cz5 BK267.out; obtain ⟨_,_,_,_,_,_,_,_,_,_⟩ := cz5 BK257.out))
     refine bodyPost_ret (results_ct rfl _ _ gb257 26 #[.int .i64 x268000_1,.int .i64 t259,.slice Ao12 t260.length co12,.int .i64 t263,.slice Ao13 t264.length co13] (0,0) _ rfl (by (with_reducible repeat (first|refine zD ?_ _|refine zF ?_|refine zE ?_ _)); refine blk_put (cs := #[.int .i64 x268000_1,.int .i64 t259,.slice Ao12 t260.length co12,.int .i64 t263,.slice none 0 0]) ?_ 4 _ rfl; (with_reducible repeat (first|refine zD ?_ _|refine zF ?_|refine zE ?_ _)); refine blk_put (cs := #[.int .i64 x268000_1,.int .i64 t259,.slice Ao12 t260.length co12,.int .i64 0,.slice none 0 0]) ?_ 3 _ rfl; (with_reducible repeat (first|refine zD ?_ _|refine zF ?_|refine zE ?_ _)); refine blk_put (cs := #[.int .i64 x268000_1,.int .i64 t259,.slice none 0 0,.int .i64 0,.slice none 0 0]) ?_ 2 _ rfl; (with_reducible repeat (first|refine zD ?_ _|refine zF ?_|refine zE ?_ _)); refine blk_put (cs := #[.int .i64 x268000_1,.int .i64 0,.slice none 0 0,.int .i64 0,.slice none 0 0]) ?_ 1 _ rfl; (with_reducible repeat (first|refine zD ?_ _|refine zF ?_|refine zE ?_ _)); refine blk_put (cs := #[.int .i64 0,.int .i64 0,.slice none 0 0,.int .i64 0,.slice none 0 0]) ?_ 0 _ rfl; (with_reducible repeat (first|refine zD ?_ _|refine zF ?_|refine zE ?_ _)); exact BK257.out) Try.underlying26 rfl (by kernel_rfl)) rfl ?_
     exact ⟨_,_,_,by first|rfl|(simp [errW_none,errW_some] <;> rfl)|(simp [*,errW_none,errW_some] <;> rfl),by (with_reducible repeat (first|apply Kd.R_alloc|apply Kd.R_drewN|apply Kd.R_drew)); exact Kd.R_mono (zB (p := ⟨gb257,4,none⟩) (zB (p := ⟨gb257,3,none⟩) (zB (p := ⟨gb257,2,none⟩) (zB (p := ⟨gb257,1,none⟩) (zB (p := ⟨gb257,0,none⟩) (Kd.R_types HO_268002.out BK257.out (by decide)) (fun _ h=>h.2) (.int .i64 x268000_1)) (fun _ h=>h.2) (.int .i64 t259)) (fun _ h=>h.2) (.slice Ao12 t260.length co12)) (fun _ h=>h.2) (.int .i64 t263)) (fun _ h=>h.2) (.slice Ao13 t264.length co13)) (fun _ hk => hk.1),by (with_reducible repeat (first|apply Kd.R_alloc|apply Kd.R_drewN|apply Kd.R_drew)); exact Kd.R_mono (zB (p := ⟨gb257,4,none⟩) (zB (p := ⟨gb257,3,none⟩) (zB (p := ⟨gb257,2,none⟩) (zB (p := ⟨gb257,1,none⟩) (zB (p := ⟨gb257,0,none⟩) (Kd.R_types HO_268004.out BK257.out (by decide)) (fun _ h=>h.2) (.int .i64 x268000_1)) (fun _ h=>h.2) (.int .i64 t259)) (fun _ h=>h.2) (.slice Ao12 t260.length co12)) (fun _ h=>h.2) (.int .i64 t263)) (fun _ h=>h.2) (.slice Ao13 t264.length co13)) (fun _ hk => hk.1),by (with_reducible repeat (first|apply Kd.R_alloc|apply Kd.R_drewN|apply Kd.R_drew)); exact Kd.R_mono (zB (p := ⟨gb257,4,none⟩) (zB (p := ⟨gb257,3,none⟩) (zB (p := ⟨gb257,2,none⟩) (zB (p := ⟨gb257,1,none⟩) (zB (p := ⟨gb257,0,none⟩) (Kd.R_types HO_5.out BK257.out (by decide)) (fun _ h=>h.2) (.int .i64 x268000_1)) (fun _ h=>h.2) (.int .i64 t259)) (fun _ h=>h.2) (.slice Ao12 t260.length co12)) (fun _ h=>h.2) (.int .i64 t263)) (fun _ h=>h.2) (.slice Ao13 t264.length co13)) (fun _ hk => trivial),bT HB⟩

end Go.Proofs.Ytlidnobkkgcnlaa.PFnLinks
