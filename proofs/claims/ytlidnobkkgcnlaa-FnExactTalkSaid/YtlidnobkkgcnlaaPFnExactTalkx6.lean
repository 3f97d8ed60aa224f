-- Written by a program out of the translation,for this claim.
import Derived.Test.YtlidnobkkgcnlaaPFnExactTalkx0
import Derived.Test.YtlidnobkkgcnlaaPFnExactTalkx2
import Derived.Test.YtlidnobkkgcnlaaPFnExactTalkx3
namespace Go.Proofs.Ytlidnobkkgcnlaa.PFnExactTalk
open Go.RowKit Go.Proofs.YtlidnobkkgcnlaaW.PrintWords Go.Proofs.YtlidnobkkgcnlaaW.PrintLast Go.Proofs.YtlidnobkkgcnlaaW.PrintMore
attribute [local go_sem] max2_int min2_int max_two min_two max_three min_three max_four min_four   -- for this text's walks alone
set_option linter.unusedVariables false
set_option linter.unusedSimpArgs false
theorem rrA6 {p q : Prop} (h : p) (f : p → q := by (intro h_; (with_reducible repeat (first | apply Kd.R_alloc | apply Kd.R_drewN | apply Kd.R_drew)); exact h_)) : q := f h
open Go.Proofs.YtlidnobkkgcnlaaW.PrintWords.Aside0 renaming mk → zA
open Go.Proofs.YtlidnobkkgcnlaaW.PrintWords.Kd renaming R_far → zB
open Go.Proofs.YtlidnobkkgcnlaaW.PrintWords.Kd renaming R_below → zC
open Go.Proofs.YtlidnobkkgcnlaaW.PrintWords renaming blk_drewN → zD
open Go.Proofs.YtlidnobkkgcnlaaW.PrintWords renaming blk_alloc → zE
open Go.Proofs.YtlidnobkkgcnlaaW.PrintWords renaming blk_drew → zF
open Go.Proofs.YtlidnobkkgcnlaaW.PrintWords renaming blk_below → zG

/-! ### spec_SendNew: function 31 -/
def spec_SendNew.l0 : Nat → List (S36) → Int → Int → List ByteArray → Int → List ByteArray → Int → Int → List ByteArray → Int → List ByteArray → Option (Int × Int × List ByteArray × Int × List ByteArray × (List (S36)))
  | 0,_,_,_,_,_,_,_,_,_,_,_ => none
  | k + 1,x5,x181000,x181001,x181002,x181003,x181004,x192000,x192001,x192002,x192003,x192004 => (spec_EndOk.f k x181000 x181001 x181002 x181003 x181004).bind fun t195 => (if t195 = true then (if x192000 < (wrap64 (x192001 + 4)) then (if (wrap64 (x192000 - x192001)) < (x192002.length : Int) then (if 0 ≤ (wrap64 (x192000 - x192001)) then (if x5.length < 4398046511104 then (spec_SendNew.l0 k (x5 ++ [(⟨wrap64 (x192000 + 1),x192003,rdOf ByteArray.empty x192002 (wrap64 (x192000 - x192001))⟩ : S36)]) x181000 x181001 x181002 x181003 x181004 (wrap64 (x192000 + 1)) x192001 x192002 x192003 x192004) else (none)) else (none)) else (some (x192000,x192001,x192002,x192003,x192004,x5))) else (some (x192000,x192001,x192002,x192003,x192004,x5))) else (some (x192000,x192001,x192002,x192003,x192004,x5)))
def spec_SendNew.f (k : Nat) (a0_0 : Int) (a0_1 : Int) (l0_2 : List ByteArray) (a0_3 : Int) (l0_4 : List ByteArray) : Option (Int × Int × List ByteArray × Int × List ByteArray × (List (S36))) := (spec_l06Copy.f a0_0 a0_1 l0_2 a0_3 l0_4).bind fun bt182 => (spec_SendNew.l0 k (([] : List (S36))) a0_0 a0_1 l0_2 a0_3 l0_4 bt182.1 bt182.2.1 bt182.2.2.1 bt182.2.2.2.1 bt182.2.2.2.2)
theorem spec_SendNew.mono_l : ∀ k,(∀ y0 y1 y2 y3 y4 y5 y6 y7 y8 y9 y10,LeO (spec_SendNew.l0 k y0 y1 y2 y3 y4 y5 y6 y7 y8 y9 y10) (spec_SendNew.l0 (k + 1) y0 y1 y2 y3 y4 y5 y6 y7 y8 y9 y10))
  | 0 => fun _ _ _ _ _ _ _ _ _ _ _ r h => by simp [spec_SendNew.l0] at h
  | k + 1 => by
   have ih0 := spec_SendNew.mono_l k
   ·
    intro y0 y1 y2 y3 y4 y5 y6 y7 y8 y9 y10
    unfold spec_SendNew.l0
    repeat' first
   |(with_reducible exact ih0 _ _ _ _ _ _ _ _ _ _ _)
   |(with_reducible exact spec_EndOk.mono _ _ _ _ _ _)
   |(with_reducible exact LeO.refl _)
   |(with_reducible exact LeO.none _)
   |(with_reducible refine LeO.ite ?_ ?_)
   |(with_reducible refine LeO.bind ?_ (fun _ => ?_))
   |exact ih0 _ _ _ _ _ _ _ _ _ _ _
   |exact spec_EndOk.mono _ _ _ _ _ _
   |exact LeO.none _
   |refine LeO.ite ?_ ?_
   |refine LeO.bind ?_ (fun _ => ?_)
theorem spec_SendNew.mono : ∀ a0 a1 a2 a3 a4 k,LeO (spec_SendNew.f k a0 a1 a2 a3 a4) (spec_SendNew.f (k + 1) a0 a1 a2 a3 a4) := by
  intro a0 a1 a2 a3 a4 k
  have ih0 := spec_SendNew.mono_l k
  unfold spec_SendNew.f
  repeat' first
   |(with_reducible exact ih0 _ _ _ _ _ _ _ _ _ _ _)
   |(with_reducible exact spec_EndOk.mono _ _ _ _ _ _)
   |(with_reducible exact LeO.refl _)
   |(with_reducible exact LeO.none _)
   |(with_reducible refine LeO.ite ?_ ?_)
   |(with_reducible refine LeO.bind ?_ (fun _ => ?_))
   |exact ih0 _ _ _ _ _ _ _ _ _ _ _
   |exact spec_EndOk.mono _ _ _ _ _ _
   |exact LeO.none _
   |refine LeO.ite ?_ ?_
   |refine LeO.bind ?_ (fun _ => ?_)
def spec_SendNew.T4 : Bool × List (List Nat × List Nat) := (true,[([],[]),([],[]),([1],[1]),([2],[2]),([],[]),([4],[4]),([],[]),([6],[6]),([],[]),([8],[8]),([],[]),([10],[10]),([9,11],[9,11]),([7,12],[7,12]),([13],[13]),([3,5,14],[3,5,14]),([15],[15]),([0,16],[0,16]),([17,17,0,1,2,3,4,5,6,7,8,9,10,11,12,13,14,15,16,17],[0,17])])
def spec_SendNew.B4 : List Nat := [0,0,2,6,0,16,0,64,0,256,0,1024,3840,8128,16320,32766,65534,131071,262143]
theorem spec_SendNew.tab4 : rtab .any (opsOf Try.f31 4) = spec_SendNew.T4 := by kernel_rfl
theorem spec_SendNew.bits4 : waitsOk spec_SendNew.T4.2 spec_SendNew.B4 = true := by kernel_rfl
set_option maxHeartbeats 8000000 in
set_option maxRecDepth 100000 in
theorem spec_SendNew.calls (k : Nat) (a0_0 : Int) (a0_1 : Int) (A0_2 : Option Addr) (c0_2 : Nat) (l0_2 : List ByteArray) (a0_3 : Int) (A0_4 : Option Addr) (c0_4 : Nat) (l0_4 : List ByteArray) (r1 : Int) (r2 : Int) (r3 : List ByteArray) (r4 : Int) (r5 : List ByteArray) (r6 : List (S36)) (w : World) (hr0_2 : Kd.C Kd.string w A0_2 l0_2.length l0_2) (hc0_2 : l0_2.length ≤ c0_2) (hr0_4 : Kd.C Kd.string w A0_4 l0_4.length l0_4) (hc0_4 : l0_4.length ≤ c0_4) (h : spec_SendNew.f k a0_0 a0_1 l0_2 a0_3 l0_4 = some (r1,r2,r3,r4,r5,r6)) :
   Calls Try.prog 31 #[.agg #[.int .i64 a0_0,.int .i64 a0_1,.slice A0_2 l0_2.length c0_2,.int .i64 a0_3,.slice A0_4 l0_4.length c0_4]] w fun e w' => ∃ v2_ v4_ v5_ : Value,e = .returned (.tuple #[.agg #[.int .i64 r1,.int .i64 r2,v2_,.int .i64 r4,v4_],v5_]) ∧ Kd.R Kd.string 9 w' w.heap.size (fun k_ => some k_ ≠ (v4_ : Value).ownBlock) v2_ r3 ∧ Kd.R Kd.string 9 w' w.heap.size (fun k_ => some k_ ≠ (v2_ : Value).ownBlock) v4_ r5 ∧ Kd.R k36 36 w' w.heap.size (fun _ => True) v5_ r6 ∧ Below w.heap.size w w' := by
  have hu26 := Try.underlying26
  have hu36 := Try.underlying36
  have HR0_2 := zA hr0_2
  have HC0_2 := zA hc0_2
  clear hr0_2 hc0_2
  have HR0_4 := zA hr0_4
  have HC0_4 := zA hc0_4
  clear hr0_4 hc0_4
  have HB := zA (Below.refl w.heap.size w)
  have H : ((spec_l06Copy.f a0_0 a0_1 l0_2 a0_3 l0_4).bind fun bt182 => (spec_SendNew.l0 k (([] : List (S36))) a0_0 a0_1 l0_2 a0_3 l0_4 bt182.1 bt182.2.1 bt182.2.2.1 bt182.2.2.2.1 bt182.2.2.2.2)) = some (r1,r2,r3,r4,r5,r6) := h
  clear h
  replace H := Option.bind_eq_some_iff.mp H
  obtain ⟨⟨t182,t183,t184,t187,t188⟩,A20,H⟩ := H
  replace H : (spec_SendNew.l0 k (([] : List (S36))) a0_0 a0_1 l0_2 a0_3 l0_4 t182 t183 t184 t187 t188) = some (r1,r2,r3,r4,r5,r6) := H
  have A2 := zA A20
  clear A20
  obtain ⟨y192,hy192⟩ : ∃ y_ : List (S36),y_ = (([] : List (S36))) := ⟨_,rfl⟩
  replace H : (spec_SendNew.l0 k y192 a0_0 a0_1 l0_2 a0_3 l0_4 t182 t183 t184 t187 t188) = some (r1,r2,r3,r4,r5,r6) := by first | (rw [hy192]; with_reducible exact H) | (have H2_ := (Option.bind_some _ _).symm.trans H; rw [hy192]; with_reducible exact H2_) | (have H2_ := (Option.bind_some _ _).symm.trans H; with_reducible exact H2_)|with_reducible exact H | (rw [hy192]; exact H)|exact H
  have Ny192 := zA hy192
  clear hy192
  have H' := zA H
  clear H
  go_enter Try.func31,Try.ntmps31
  go_wp2_with (first | ((with_reducible refine gate_dst (N := 1) rfl ?_); (try (refine gate_guard (by rfl) ?_; dsimp only)); refine box_event ?hg (N := 1) ?hd (cs := #[.int .i64 a0_0,.int .i64 a0_1,.slice A0_2 l0_2.length c0_2,.int .i64 a0_3,.slice A0_4 l0_4.length c0_4]) (t := 26) ?hr ?_; (case hd => rfl); (case hg => rfl); (case hr => first | (go_simp; done) | (go_simp; rfl)); intro gb180 hg w3 hbox hb; have n0_ := zA (below_step (bT HB) hb); have n1_ := zA (hbox); have n2_ := zA ((by rw [hg]; exact (below_size (bT HB)) : w.heap.size ≤ gb180)); have n3_ := zA ((by rw [hg]; exact (below_size (bT HB)) : w.heap.size ≤ gb180)); clear HB; have HB := n0_; have BK180 := n1_; have GW180 := n2_; have GE180 := n3_; clear n0_ n1_ n2_ n3_ hb hbox hg) | ((with_reducible refine gate_dst (N := 2) rfl ?_); (try (refine gate_guard (by rfl) ?_; dsimp only)); refine box_event ?hg (N := 2) ?hd (cs := #[.int .i64 0,.int .i64 0,.slice none 0 0,.int .i64 0,.slice none 0 0]) (t := 26) ?hr ?_; (case hd => rfl); (case hg => rfl); (case hr => first | (go_simp; done) | (go_simp; rfl)); intro gb181 hg w4 hbox hb; have n0_ := zA (zG (bkT BK180.out) hb); have n1_ := zA (below_step (bT HB) hb); have n2_ := zA (hbox); have n3_ := zA ((by rw [hg]; exact (below_size (bT HB)) : w.heap.size ≤ gb181)); have n4_ := zA ((by rw [hg]; exact (below_size (bT HB)) : w.heap.size ≤ gb181)); have n5_ := zA ((by rw [hg]; exact Nat.ne_of_lt (blk_lt (g := gb180) (o := .cells #[.int .i64 a0_0,.int .i64 a0_1,.slice A0_2 l0_2.length c0_2,.int .i64 a0_3,.slice A0_4 l0_4.length c0_4] 26 (0,0)) (bkT BK180.out)) : gb180 ≠ gb181)); have n6_ := zA ((by rw [hg]; exact Nat.ne_of_gt (blk_lt (g := gb180) (o := .cells #[.int .i64 a0_0,.int .i64 a0_1,.slice A0_2 l0_2.length c0_2,.int .i64 a0_3,.slice A0_4 l0_4.length c0_4] 26 (0,0)) (bkT BK180.out)) : gb181 ≠ gb180)); clear BK180 HB; have BK180 := n0_; have HB := n1_; have BK181 := n2_; have GW181 := n3_; have GE181 := n4_; have NB180_181 := n5_; have NB181_180 := n6_; clear n0_ n1_ n2_ n3_ n4_ n5_ n6_ hb hbox hg; have hnb5 := NB180_181.out; have hnc5 := NB181_180.out; obtain ⟨_,_,_,_,_,_,_,_,_,_⟩ := cz5 BK180.out) | ((with_reducible refine gate_callee (f := 45) rfl ?_); refine goesL_ (some 7) rfl rfl Try.func45 (by kernel_rfl) rfl #[.agg #[.int .i64 a0_0,.int .i64 a0_1,.slice A0_2 l0_2.length c0_2,.int .i64 a0_3,.slice A0_4 l0_4.length c0_4]] rfl (by (try simp only [List.map_toArray,List.map_cons,List.map_nil]); first | done|rfl|(simp only [List.length_drop,List.length_take]; rfl)) ?_; (with_reducible refine (spec_l06Copy.calls a0_0 a0_1 _ _ l0_2 a0_3 _ _ l0_4 t182 t183 t184 t187 t188 _ ?side1 ?side2 ?side3 ?side4 A2.out).mono ?_); (case side1 => exact ccT (Kd.C_below HR0_2.out HB.out)); (case side2 => exact HC0_2.out); (case side3 => exact ccT (Kd.C_below HR0_4.out HB.out)); (case side4 => exact HC0_4.out); rintro e w7 ⟨v185,v189,rfl,ho0,ho1,hb⟩; refine ⟨_,rfl,?_⟩; have n0_ := zA (Kd.R_lower ho0 (below_size (bT HB))); have n1_ := zA (Kd.R_lower ho1 (below_size (bT HB))); have n2_ := zA (zG (bkT BK180.out) hb); have n3_ := zA (zG (bkT BK181.out) hb); have n4_ := zA (below_step (bT HB) hb); clear BK180 BK181 HB; have HO186 := n0_; have HO190 := n1_; have BK180 := n2_; have BK181 := n3_; have HB := n4_; clear n0_ n1_ n2_ n3_ n4_) | ((with_reducible refine gate_dst (N := 4) rfl ?_); (try (refine gate_guard (by rfl) ?_; dsimp only)); refine box_event ?hg (N := 4) ?hd (cs := #[.int .i64 0,.int .i64 0,.slice none 0 0,.int .i64 0,.slice none 0 0]) (t := 26) ?hr ?_; (case hd => rfl); (case hg => rfl); (case hr => first | (go_simp; done) | (go_simp; rfl)); intro gb191 hg w8 hbox hb; have n0_ := zA (zC (rrA6 HO186.out) hb); have n1_ := zA (zC (rrA6 HO190.out) hb); have n2_ := zA (zG (bkT BK180.out) hb); have n3_ := zA (zG (bkT BK181.out) hb); have n4_ := zA (below_step (bT HB) hb); have n5_ := zA (hbox); have n6_ := zA ((by rw [hg]; exact (below_size (bT HB)) : w.heap.size ≤ gb191)); have n7_ := zA ((by rw [hg]; exact (below_size (bT HB)) : w.heap.size ≤ gb191)); have n8_ := zA ((by rw [hg]; exact Nat.ne_of_lt (blk_lt (g := gb180) (o := .cells #[.int .i64 a0_0,.int .i64 a0_1,.slice A0_2 l0_2.length c0_2,.int .i64 a0_3,.slice A0_4 l0_4.length c0_4] 26 (0,0)) (bkT BK180.out)) : gb180 ≠ gb191)); have n9_ := zA ((by rw [hg]; exact Nat.ne_of_gt (blk_lt (g := gb180) (o := .cells #[.int .i64 a0_0,.int .i64 a0_1,.slice A0_2 l0_2.length c0_2,.int .i64 a0_3,.slice A0_4 l0_4.length c0_4] 26 (0,0)) (bkT BK180.out)) : gb191 ≠ gb180)); have n10_ := zA ((by rw [hg]; exact Nat.ne_of_lt (blk_lt (g := gb181) (o := .cells #[.int .i64 0,.int .i64 0,.slice none 0 0,.int .i64 0,.slice none 0 0] 26 (0,0)) (bkT BK181.out)) : gb181 ≠ gb191)); have n11_ := zA ((by rw [hg]; exact Nat.ne_of_gt (blk_lt (g := gb181) (o := .cells #[.int .i64 0,.int .i64 0,.slice none 0 0,.int .i64 0,.slice none 0 0] 26 (0,0)) (bkT BK181.out)) : gb191 ≠ gb181)); clear HO186 HO190 BK180 BK181 HB; have HO186 := n0_; have HO190 := n1_; have BK180 := n2_; have BK181 := n3_; have HB := n4_; have BK191 := n5_; have GW191 := n6_; have GE191 := n7_; have NB180_191 := n8_; have NB191_180 := n9_; have NB181_191 := n10_; have NB191_181 := n11_; clear n0_ n1_ n2_ n3_ n4_ n5_ n6_ n7_ n8_ n9_ n10_ n11_ hb hbox hg; have hnb9 := NB191_180.out; have hnc9 := NB180_191.out; have hnb10 := NB191_181.out; have hnc10 := NB181_191.out; obtain ⟨_,_,_,_,_,_,_,_,_,_⟩ := cz5 BK191.out; obtain ⟨Ao12,co12,eo12⟩ := Kd.R_slice HO186.out; subst eo12; obtain ⟨Ao13,co13,eo13⟩ := Kd.R_slice HO190.out; subst eo13) | ((with_reducible refine gate_dst (N := 8) rfl ?_); (try (refine gate_guard (by rfl) ?_; dsimp only)); refine Kd.R_lit k36 _ 36 ?hg (N := 8) ?hd (xs := ([] : List (S36))) (inner := []) (ok := fun _ => True) (okp := fun _ => True) ?hr ?hp (fun _ hk => hk) trivial (Below.refl _ _) (Nat.le_refl _) (by simp) ?_; (case hd => rfl); (case hg => rfl); (case hr => first | (go_simp; done) | (go_simp; rfl)); (case hp => exact (Reps.none _ _)); intro v193 w14 ho15 hb hg_ hnew_; clear hg_ hnew_; (first | rw [← Ny192.out] at ho15|(simp only [Int.reduceToNat] at ho15; rw [← Ny192.out] at ho15)); have n0_ := zA (zC (rrA6 (Kd.R_mono (zB (p := ⟨gb191,4,none⟩) (zB (p := ⟨gb191,3,none⟩) (zB (p := ⟨gb191,2,none⟩) (zB (p := ⟨gb191,1,none⟩) (zB (p := ⟨gb191,0,none⟩) (Kd.R_types HO186.out BK191.out (by decide)) (fun _ h=>h.2) (.int .i64 t182)) (fun _ h=>h.2) (.int .i64 t183)) (fun _ h=>h.2) (.slice Ao12 t184.length co12)) (fun _ h=>h.2) (.int .i64 t187)) (fun _ h=>h.2) (.slice Ao13 t188.length co13)) (fun _ h_ => h_.1))) hb); have n1_ := zA (zC (rrA6 (Kd.R_mono (zB (p := ⟨gb191,4,none⟩) (zB (p := ⟨gb191,3,none⟩) (zB (p := ⟨gb191,2,none⟩) (zB (p := ⟨gb191,1,none⟩) (zB (p := ⟨gb191,0,none⟩) (Kd.R_types HO190.out BK191.out (by decide)) (fun _ h=>h.2) (.int .i64 t182)) (fun _ h=>h.2) (.int .i64 t183)) (fun _ h=>h.2) (.slice Ao12 t184.length co12)) (fun _ h=>h.2) (.int .i64 t187)) (fun _ h=>h.2) (.slice Ao13 t188.length co13)) (fun _ h_ => h_.1))) hb); have n2_ := zA (Kd.R_lower ho15 (below_size (bT HB))); have n3_ := zA (zG (bkT BK180.out) hb); have n4_ := zA (zG (bkT BK181.out) hb); have n5_ := zA (zG (g := gb191) (o := .cells #[.int .i64 t182,.int .i64 t183,.slice Ao12 t184.length co12,.int .i64 t187,.slice Ao13 t188.length co13] 26 (0,0)) (by (with_reducible repeat (first|refine zD ?_ _|refine zF ?_|refine zE ?_ _)); refine blk_put (cs := #[.int .i64 t182,.int .i64 t183,.slice Ao12 t184.length co12,.int .i64 t187,.slice none 0 0]) ?_ 4 _ rfl; (with_reducible repeat (first|refine zD ?_ _|refine zF ?_|refine zE ?_ _)); refine blk_put (cs := #[.int .i64 t182,.int .i64 t183,.slice Ao12 t184.length co12,.int .i64 0,.slice none 0 0]) ?_ 3 _ rfl; (with_reducible repeat (first|refine zD ?_ _|refine zF ?_|refine zE ?_ _)); refine blk_put (cs := #[.int .i64 t182,.int .i64 t183,.slice none 0 0,.int .i64 0,.slice none 0 0]) ?_ 2 _ rfl; (with_reducible repeat (first|refine zD ?_ _|refine zF ?_|refine zE ?_ _)); refine blk_put (cs := #[.int .i64 t182,.int .i64 0,.slice none 0 0,.int .i64 0,.slice none 0 0]) ?_ 1 _ rfl; (with_reducible repeat (first|refine zD ?_ _|refine zF ?_|refine zE ?_ _)); refine blk_put (cs := #[.int .i64 0,.int .i64 0,.slice none 0 0,.int .i64 0,.slice none 0 0]) ?_ 0 _ rfl; (with_reducible repeat (first|refine zD ?_ _|refine zF ?_|refine zE ?_ _)); exact BK191.out) hb); have n6_ := zA (below_step (bT HB) hb); clear HO186 HO190 BK180 BK181 BK191 HB; have HO186 := n0_; have HO190 := n1_; have HO194 := n2_; have BK180 := n3_; have BK181 := n4_; have BK191 := n5_; have HB := n6_; clear n0_ n1_ n2_ n3_ n4_ n5_ n6_ hb ho15))
  go_loopg [5] k (fun kq v5 w' => ∃ (x5_1 : List (S36)) (x192000_1 : Int),Aside0 (spec_SendNew.l0 kq x5_1 a0_0 a0_1 l0_2 a0_3 l0_4 x192000_1 t183 t184 t187 t188 = some (r1,r2,r3,r4,r5,r6)) ∧ Aside0 (kq ≤ k) ∧ Aside0 (Kd.R k36 36 w' w.heap.size (fun _ => True) v5 x5_1) ∧ Aside0 (Kd.R Kd.string 9 w' w.heap.size (fun k_ => some k_ ≠ ((.slice Ao13 t188.length co13) : Value).ownBlock) (.slice Ao12 t184.length co12) t184) ∧ Aside0 (Kd.R Kd.string 9 w' w.heap.size (fun k_ => some k_ ≠ ((.slice Ao12 t184.length co12) : Value).ownBlock) (.slice Ao13 t188.length co13) t188) ∧ Aside0 (w'.heap[gb180]? = some (.cells #[.int .i64 a0_0,.int .i64 a0_1,(.slice A0_2 l0_2.length c0_2),.int .i64 a0_3,(.slice A0_4 l0_4.length c0_4)] 26 (0,0))) ∧ Aside0 (w'.heap[gb181]? = some (.cells #[.int .i64 0,.int .i64 0,(.slice none 0 0),.int .i64 0,(.slice none 0 0)] 26 (0,0))) ∧ Aside0 (w'.heap[gb191]? = some (.cells #[.int .i64 x192000_1,.int .i64 t183,(.slice Ao12 t184.length co12),.int .i64 t187,(.slice Ao13 t188.length co13)] 26 (0,0))) ∧ Aside0 (Below w.heap.size w w'))
  case atStart => exact ⟨(y192),(t182),H',⟨Nat.le_refl _⟩,⟨(rrA6 HO194.out)⟩,⟨(rrA6 HO186.out)⟩,⟨(rrA6 HO190.out)⟩,⟨(bkT BK180.out)⟩,⟨(bkT BK181.out)⟩,⟨(bkT BK191.out)⟩,⟨bT HB⟩⟩
  case round =>
   clear H'
   obtain ⟨x5_1,x192000_1,HA,HK1,HO_5,HO_192002,HO_192004,BK180,BK181,BK191,HB⟩ := hrel
   cases gk with
   | zero => exact absurd HA.out (by simp [spec_SendNew.l0])
   | succ k1 =>
    have H := HA.out
    clear HA
    simp only [spec_SendNew.l0] at H
    replace H := Option.bind_eq_some_iff.mp H
    obtain ⟨t195,A160,H⟩ := H
    replace H : (if t195 = true then (if x192000_1 < (wrap64 (t183 + 4)) then (if (wrap64 (x192000_1 - t183)) < (t184.length : Int) then (if 0 ≤ (wrap64 (x192000_1 - t183)) then (if x5_1.length < 4398046511104 then (spec_SendNew.l0 k1 (x5_1 ++ [(⟨wrap64 (x192000_1 + 1),t187,rdOf ByteArray.empty t184 (wrap64 (x192000_1 - t183))⟩ : S36)]) a0_0 a0_1 l0_2 a0_3 l0_4 (wrap64 (x192000_1 + 1)) t183 t184 t187 t188) else (none)) else (none)) else (some (x192000_1,t183,t184,t187,t188,x5_1))) else (some (x192000_1,t183,t184,t187,t188,x5_1))) else (some (x192000_1,t183,t184,t187,t188,x5_1))) = some (r1,r2,r3,r4,r5,r6) := H
    have A16 := zA A160
    clear A160
    by_cases c17 : t195 = true
    ·
     subst c17
     have H1 : (if x192000_1 < (wrap64 (t183 + 4)) then (if (wrap64 (x192000_1 - t183)) < (t184.length : Int) then (if 0 ≤ (wrap64 (x192000_1 - t183)) then (if x5_1.length < 4398046511104 then (spec_SendNew.l0 k1 (x5_1 ++ [(⟨wrap64 (x192000_1 + 1),t187,rdOf ByteArray.empty t184 (wrap64 (x192000_1 - t183))⟩ : S36)]) a0_0 a0_1 l0_2 a0_3 l0_4 (wrap64 (x192000_1 + 1)) t183 t184 t187 t188) else (none)) else (none)) else (some (x192000_1,t183,t184,t187,t188,x5_1))) else (some (x192000_1,t183,t184,t187,t188,x5_1))) = some (r1,r2,r3,r4,r5,r6) := by rw [if_pos rfl] at H; exact H
     clear H; have H := H1; clear H1
     by_cases c18 : x192000_1 < (wrap64 (t183 + 4))
     ·
      rw [if_pos c18] at H
      have c18b0 : decide (x192000_1 < (wrap64 (t183 + 4))) = true := decide_eq_true c18
      clear c18
      by_cases c19 : (wrap64 (x192000_1 - t183)) < (t184.length : Int)
      ·
       rw [if_pos c19] at H
       have c19b0 : decide ((wrap64 (x192000_1 - t183)) < (t184.length : Int)) = true := decide_eq_true c19
       clear c19
       obtain ⟨ji20,hji20⟩ : ∃ j_ : Int,(wrap64 (x192000_1 - t183)) = j_ := ⟨_,rfl⟩
       replace H : (if 0 ≤ (ji20) then (if x5_1.length < 4398046511104 then (spec_SendNew.l0 k1 (x5_1 ++ [(⟨wrap64 (x192000_1 + 1),t187,rdOf ByteArray.empty t184 (ji20)⟩ : S36)]) a0_0 a0_1 l0_2 a0_3 l0_4 (wrap64 (x192000_1 + 1)) t183 t184 t187 t188) else (none)) else (none)) = some (r1,r2,r3,r4,r5,r6) := by first | (rw [hji20] at H; exact H)|(simp only [hji20] at H ⊢; exact H)
       (try rw [hji20] at c19b0)
       (try rw [hji20] at A16)
       have hji20w : (IntKind.i64.wrap (x192000_1 - t183)) = ji20 := (i64_w _).trans hji20
       by_cases c21 : 0 ≤ (ji20)
       ·
        rw [if_pos c21] at H
        have c21b0 : decide (0 ≤ (ji20)) = true := decide_eq_true c21
        clear c21
        by_cases c22 : x5_1.length < 4398046511104
        ·
         rw [if_pos c22] at H
         have LMc22 := zA c22
         clear c22
         obtain ⟨y197,hy197⟩ : ∃ y_ : List (S36),y_ = (x5_1 ++ [(⟨wrap64 (x192000_1 + 1),t187,rdOf ByteArray.empty t184 (ji20)⟩ : S36)]) := ⟨_,rfl⟩
         replace H : (spec_SendNew.l0 k1 y197 a0_0 a0_1 l0_2 a0_3 l0_4 (wrap64 (x192000_1 + 1)) t183 t184 t187 t188) = some (r1,r2,r3,r4,r5,r6) := by first | (rw [hy197]; with_reducible exact H) | (have H2_ := (Option.bind_some _ _).symm.trans H; rw [hy197]; with_reducible exact H2_) | (have H2_ := (Option.bind_some _ _).symm.trans H; with_reducible exact H2_)|with_reducible exact H | (rw [hy197]; exact H)|exact H
         have Ny197 := zA hy197
         clear hy197
         have H' := zA H
         clear H
         have hnb23 := NB180_181.out
         have hnc23 := NB181_180.out
         have hnb24 := NB180_191.out
         have hnc24 := NB191_180.out
         obtain ⟨_,_,_,_,_,_,_,_,_,_⟩ := cz5 BK180.out
         try go_wp2_with (first | ((with_reducible refine gate_callee (f := 22) rfl ?_); refine goesL_ (some 10) rfl rfl Try.func22 (by kernel_rfl) rfl #[.agg #[.int .i64 a0_0,.int .i64 a0_1,.slice A0_2 l0_2.length c0_2,.int .i64 a0_3,.slice A0_4 l0_4.length c0_4]] rfl (by (try simp only [List.map_toArray,List.map_cons,List.map_nil]); first | done|rfl|(simp only [List.length_drop,List.length_take]; rfl)) ?_; (with_reducible refine (spec_EndOk.calls k1 a0_0 a0_1 _ _ l0_2 a0_3 _ _ l0_4 true _ ?side1 ?side2 ?side3 ?side4 A16.out).mono ?_); (case side1 => exact ccT (Kd.C_below HR0_2.out HB.out)); (case side2 => exact HC0_2.out); (case side3 => exact ccT (Kd.C_below HR0_4.out HB.out)); (case side4 => exact HC0_4.out); rintro e w26 ⟨rfl,hb⟩; refine ⟨_,rfl,?_⟩; have n0_ := zA (zC (rrA6 HO_5.out) hb); have n1_ := zA (zC (rrA6 HO_192002.out) hb); have n2_ := zA (zC (rrA6 HO_192004.out) hb); have n3_ := zA (zG (bkT BK180.out) hb); have n4_ := zA (zG (bkT BK181.out) hb); have n5_ := zA (zG (bkT BK191.out) hb); have n6_ := zA (below_step (bT HB) hb); clear HO_5 HO_192002 HO_192004 BK180 BK181 BK191 HB; have HO_5 := n0_; have HO_192002 := n1_; have HO_192004 := n2_; have BK180 := n3_; have BK181 := n4_; have BK191 := n5_; have HB := n6_; clear n0_ n1_ n2_ n3_ n4_ n5_ n6_; have hnb27 := NB191_181.out; have hnc27 := NB181_191.out; obtain ⟨_,_,_,_,_,_,_,_,_,_⟩ := cz5 BK191.out))
         have n0_ := zA (Kd.R_drew HO_5.out)
         have n1_ := zA (Kd.R_drew HO_192002.out)
         have n2_ := zA (Kd.R_drew HO_192004.out)
         have n3_ := zA (zF BK180.out)
         have n4_ := zA (zF BK181.out)
         have n5_ := zA (zF BK191.out)
         have n6_ := zA (below_drew1 HB.out)
         clear HO_5 HO_192002 HO_192004 BK180 BK181 BK191 HB
         have HO_5 := n0_
         have HO_192002 := n1_
         have HO_192004 := n2_
         have BK180 := n3_
         have BK181 := n4_
         have BK191 := n5_
         have HB := n6_
         clear n0_ n1_ n2_ n3_ n4_ n5_ n6_
         have p196 : 0 ≤ ((ji20) : Int) := of_decide_eq_true (by first|(with_reducible assumption) | assumption)
         have q196 : (ji20) < (t184.length : Int) := of_decide_eq_true (by first|(with_reducible assumption) | assumption)
         obtain ⟨ad196,e196,hx196_0⟩ := Kd.at_string (Kd.R_reads' HO_192002.out).2.2 (ji20) p196 q196
         cases e196
         replace p196 := eq_true p196
         replace q196 := eq_true q196
         refine start_ (n := 19) (S := fun w' => w'.cell? ⟨gb191,0,none⟩ = some (.int .i64 x192000_1) ∧ w'.cell? ⟨gb191,1,none⟩ = some (.int .i64 t183) ∧ w'.cell? ⟨gb191,2,none⟩ = some (.slice (some ad196) t184.length co12) ∧ w'.cell? ⟨gb191,3,none⟩ = some (.int .i64 t187) ∧ w'.cell? ⟨gb191,4,none⟩ = some (.slice Ao13 t188.length co13) ∧ w'.cell? (ad196.add ((ji20)).toNat) = some (.string (rdOf ByteArray.empty t184 (ji20)))) (ds := [16,17]) #[false,false,false,false,false,false,false,false,false,false,false,false,false,false,false,false,false,false,false] (by kernel_rfl) rfl rfl ⟨(blk_cell BK191.out 0).trans rfl,(blk_cell BK191.out 1).trans rfl,(blk_cell BK191.out 2).trans rfl,(blk_cell BK191.out 3).trans rfl,(blk_cell BK191.out 4).trans rfl,hx196_0⟩ (fun hHeld => ?_); refine with_tabW spec_SendNew.tab4 spec_SendNew.bits4 (fun HT_ HW_ => ?_)
         generalize w26.drew = w29 at HO_5 HO_192002 HO_192004 BK180 BK181 BK191 HB hx196_0 hHeld ⊢
         refine pure_ (i := 0) (N := some 30) (v := ?_) (a' := ?_) #[true,false,false,false,false,false,false,false,false,false,false,false,false,false,false,false,false,false,false] rfl rfl (any_of HT_.out (by kernel_rfl)) (fun _ _ _ h => h) (Or.inl ⟨by rfl,?_⟩) ?_ ?_; rotate_left
         · intro w'; go_simp; with_reducible rfl
         rotate_left
         · simp only [Act.put,List.setIfInBounds_toArray,List.set_cons_zero,List.set_cons_succ,i64_w,i32_w]; rfl
         refine pure_ (i := 1) (N := some 31) (v := ?_) (a' := ?_) #[true,true,false,false,false,false,false,false,false,false,false,false,false,false,false,false,false,false,false] rfl rfl (any_of HT_.out (by kernel_rfl)) (fun _ _ _ h => h) (Or.inl ⟨by rfl,?_⟩) ?_ ?_; rotate_left
         · intro w'; go_simp; with_reducible rfl
         rotate_left
         · simp only [Act.put,List.setIfInBounds_toArray,List.set_cons_zero,List.set_cons_succ,i64_w,i32_w]; rfl
         refine pure_ (i := 4) (N := some 34) (v := ?_) (a' := ?_) #[true,true,false,false,true,false,false,false,false,false,false,false,false,false,false,false,false,false,false] rfl rfl (any_of HT_.out (by kernel_rfl)) (fun _ _ _ h => h) (Or.inl ⟨by rfl,?_⟩) ?_ ?_; rotate_left
         · intro w'; go_simp; with_reducible rfl
         rotate_left
         · simp only [Act.put,List.setIfInBounds_toArray,List.set_cons_zero,List.set_cons_succ,i64_w,i32_w]; rfl
         refine pure_ (i := 6) (N := some 36) (v := ?_) (a' := ?_) #[true,true,false,false,true,false,true,false,false,false,false,false,false,false,false,false,false,false,false] rfl rfl (any_of HT_.out (by kernel_rfl)) (fun _ _ _ h => h) (Or.inl ⟨by rfl,?_⟩) ?_ ?_; rotate_left
         · intro w'; go_simp; with_reducible rfl
         rotate_left
         · simp only [Act.put,List.setIfInBounds_toArray,List.set_cons_zero,List.set_cons_succ,i64_w,i32_w]; rfl
         refine pure_ (i := 8) (N := some 38) (v := ?_) (a' := ?_) #[true,true,false,false,true,false,true,false,true,false,false,false,false,false,false,false,false,false,false] rfl rfl (any_of HT_.out (by kernel_rfl)) (fun _ _ _ h => h) (Or.inl ⟨by rfl,?_⟩) ?_ ?_; rotate_left
         · intro w'; go_simp; with_reducible rfl
         rotate_left
         · simp only [Act.put,List.setIfInBounds_toArray,List.set_cons_zero,List.set_cons_succ,i64_w,i32_w]; rfl
         refine pure_ (i := 10) (N := some 40) (v := ?_) (a' := ?_) #[true,true,false,false,true,false,true,false,true,false,true,false,false,false,false,false,false,false,false] rfl rfl (any_of HT_.out (by kernel_rfl)) (fun _ _ _ h => h) (Or.inl ⟨by rfl,?_⟩) ?_ ?_; rotate_left
         · intro w'; go_simp; with_reducible rfl
         rotate_left
         · simp only [Act.put,List.setIfInBounds_toArray,List.set_cons_zero,List.set_cons_succ,i64_w,i32_w]; rfl
         refine take_ (i := 2) (N := some 32) (v := ?_) (a' := ?_) #[true,true,true,false,true,false,true,false,true,false,true,false,false,false,false,false,false,false,false] rfl rfl (take_ofW HT_.out HW_.out (by kernel_rfl)) (fun _ _ _ h => h) (Or.inl ⟨by rfl,?_⟩) hHeld ?_ ?_; rotate_left
         ·
          rintro w' ⟨s0,s1,s2,s3,s4,s5⟩
          go_simp; with_reducible rfl
         rotate_left
         · simp only [Act.put,List.setIfInBounds_toArray,List.set_cons_zero,List.set_cons_succ,i64_w,i32_w]; rfl
         refine pure_ (i := 3) (N := some 33) (v := ?_) (a' := ?_) #[true,true,true,true,true,false,true,false,true,false,true,false,false,false,false,false,false,false,false] rfl rfl (any_of HT_.out (by kernel_rfl)) (fun _ _ _ h => h) (Or.inl ⟨by rfl,?_⟩) ?_ ?_; rotate_left
         · intro w'; go_simp; with_reducible rfl
         rotate_left
         · simp only [Act.put,List.setIfInBounds_toArray,List.set_cons_zero,List.set_cons_succ,i64_w,i32_w]; rfl
         refine take_ (i := 5) (N := some 35) (v := ?_) (a' := ?_) #[true,true,true,true,true,true,true,false,true,false,true,false,false,false,false,false,false,false,false] rfl rfl (take_ofW HT_.out HW_.out (by kernel_rfl)) (fun _ _ _ h => h) (Or.inl ⟨by rfl,?_⟩) hHeld ?_ ?_; rotate_left
         ·
          rintro w' ⟨s0,s1,s2,s3,s4,s5⟩
          go_simp; with_reducible rfl
         rotate_left
         · simp only [Act.put,List.setIfInBounds_toArray,List.set_cons_zero,List.set_cons_succ,i64_w,i32_w]; rfl
         refine take_ (i := 7) (N := some 37) (v := ?_) (a' := ?_) #[true,true,true,true,true,true,true,true,true,false,true,false,false,false,false,false,false,false,false] rfl rfl (take_ofW HT_.out HW_.out (by kernel_rfl)) (fun _ _ _ h => h) (Or.inl ⟨by rfl,?_⟩) hHeld ?_ ?_; rotate_left
         ·
          rintro w' ⟨s0,s1,s2,s3,s4,s5⟩
          go_simp; with_reducible rfl
         rotate_left
         · simp only [Act.put,List.setIfInBounds_toArray,List.set_cons_zero,List.set_cons_succ,i64_w,i32_w]; rfl
         refine take_ (i := 9) (N := some 39) (v := ?_) (a' := ?_) #[true,true,true,true,true,true,true,true,true,true,true,false,false,false,false,false,false,false,false] rfl rfl (take_ofW HT_.out HW_.out (by kernel_rfl)) (fun _ _ _ h => h) (Or.inl ⟨by rfl,?_⟩) hHeld ?_ ?_; rotate_left
         ·
          rintro w' ⟨s0,s1,s2,s3,s4,s5⟩
          go_simp; with_reducible rfl
         rotate_left
         · simp only [Act.put,List.setIfInBounds_toArray,List.set_cons_zero,List.set_cons_succ,i64_w,i32_w]; rfl
         refine take_ (i := 11) (N := some 41) (v := ?_) (a' := ?_) #[true,true,true,true,true,true,true,true,true,true,true,true,false,false,false,false,false,false,false] rfl rfl (take_ofW HT_.out HW_.out (by kernel_rfl)) (fun _ _ _ h => h) (Or.inl ⟨by rfl,?_⟩) hHeld ?_ ?_; rotate_left
         ·
          rintro w' ⟨s0,s1,s2,s3,s4,s5⟩
          go_simp; with_reducible rfl
         rotate_left
         · simp only [Act.put,List.setIfInBounds_toArray,List.set_cons_zero,List.set_cons_succ,i64_w,i32_w]; rfl
         refine pure_ (i := 12) (N := some 42) (v := ?_) (a' := ?_) #[true,true,true,true,true,true,true,true,true,true,true,true,true,false,false,false,false,false,false] rfl rfl (any_of HT_.out (by kernel_rfl)) (fun _ _ _ h => h) (Or.inl ⟨by rfl,?_⟩) ?_ ?_; rotate_left
         · intro w'; go_simp; with_reducible rfl
         rotate_left
         · simp only [Act.put,List.setIfInBounds_toArray,List.set_cons_zero,List.set_cons_succ,i64_w,i32_w]; rfl
         refine pure_ (i := 13) (N := some 43) (v := ?_) (a' := ?_) #[true,true,true,true,true,true,true,true,true,true,true,true,true,true,false,false,false,false,false] rfl rfl (any_of HT_.out (by kernel_rfl)) (fun _ _ _ h => h) (Or.inl ⟨by rfl,?_⟩) ?_ ?_; rotate_left
         · intro w'; go_simp; with_reducible rfl
         rotate_left
         · simp only [Act.put,List.setIfInBounds_toArray,List.set_cons_zero,List.set_cons_succ,i64_w,i32_w]; rfl
         refine take_ (i := 14) (N := some 44) (v := ?_) (a' := ?_) #[true,true,true,true,true,true,true,true,true,true,true,true,true,true,true,false,false,false,false] rfl rfl (take_ofW HT_.out HW_.out (by kernel_rfl)) (fun _ _ _ h => h) (Or.inl ⟨by rfl,?_⟩) hHeld ?_ ?_; rotate_left
         ·
          rintro w' ⟨s0,s1,s2,s3,s4,s5⟩
          go_simp; with_reducible rfl
         rotate_left
         · simp only [Act.put,List.setIfInBounds_toArray,List.set_cons_zero,List.set_cons_succ,i64_w,i32_w]; rfl
         refine pure_ (i := 15) (N := some 45) (v := ?_) (a' := ?_) #[true,true,true,true,true,true,true,true,true,true,true,true,true,true,true,true,false,false,false] rfl rfl (any_of HT_.out (by kernel_rfl)) (fun _ _ _ h => h) (Or.inl ⟨by rfl,?_⟩) ?_ ?_; rotate_left
         · intro w'; go_simp; with_reducible rfl
         rotate_left
         · simp only [Act.put,List.setIfInBounds_toArray,List.set_cons_zero,List.set_cons_succ,i64_w,i32_w]; rfl
         refine last_ (i := 16) (N := some 46) #[true,true,true,true,true,true,true,true,true,true,true,true,true,true,true,true,true,false,false] rfl rfl (one_of HT_.out (by kernel_rfl)) (by decide) (fun K hK => ?_)
         refine value_ (w1 := ?_) (v := ?_) (by rfl) rfl ?_ ?_
         rotate_left 2
         ·
          go_simp
          constructor
          · rfl
          · rfl
         refine hK.out _ _ ?_
         clear hK K
         refine norm_ (a' := ?_) ?_ ?_
         rotate_left
         ·
          show Act.put _ (some 46) _ = _
          simp only [Act.put,List.setIfInBounds_toArray,List.set_cons_zero,List.set_cons_succ,i64_w,i32_w]; rfl
         refine last_ (i := 17) (N := some 47) #[true,true,true,true,true,true,true,true,true,true,true,true,true,true,true,true,true,true,false] rfl rfl (one_of HT_.out (by kernel_rfl)) (by decide) (fun K hK => ?_)
         refine Kd.R_append_step k36 (w0 := w) w.heap.size (by rfl) (.tmp 30) (.tmp 46) 45 36 (.agg #[(.int .i64 0),(.int .i64 0),(.string ⟨#[]⟩)]) 32 rfl Try.underlying45 info36 rfl (by decide) (by omega) u5 x5_1 (⟨wrap64 (x192000_1 + 1),t187,rdOf ByteArray.empty t184 (ji20)⟩ : S36) [.int .i64 (wrap64 (x192000_1 + 1)),.int .i64 t187,.string (rdOf ByteArray.empty t184 (ji20))] (fun _ => True) (fun _ => False) rfl rfl ?aP (fun _ hk => hk.elim) ?aF ?aO ?aB ?aS ?aL ?_
         (case aP => exact k36_mkM _ _ _ (⟨wrap64 (x192000_1 + 1),t187,rdOf ByteArray.empty t184 (ji20)⟩ : S36))
         (case aB => exact (bT HB))
         (case aF => exact (fun _ _ => trivial))
         (case aO => exact (rrA6 HO_5.out))
         (case aS => exact (below_size (bT HB)))
         (case aL => have := LMc22.out; omega)
         intro v198 w30 ho hb hg hat
         rw [← Ny197.out] at ho
         have n0_ := zA (Kd.R_over' (rrA6 HO_192002.out) (Kd.R_typed (rrA6 HO_5.out)) (by decide) hg)
         have n1_ := zA (Kd.R_over' (rrA6 HO_192004.out) (Kd.R_typed (rrA6 HO_5.out)) (by decide) hg)
         have n2_ := zA (blk_grown (bkT BK180.out) hg (Kd.R_ne HO_5.out BK180.out (by decide)))
         have n3_ := zA (blk_grown (bkT BK181.out) hg (Kd.R_ne HO_5.out BK181.out (by decide)))
         have n4_ := zA (blk_grown (bkT BK191.out) hg (Kd.R_ne HO_5.out BK191.out (by decide)))
         have n5_ := zA (hb)
         have n6_ := zA (ho)
         clear HO_192002 HO_192004 BK180 BK181 BK191 HB HO_5
         have HO_192002 := n0_
         have HO_192004 := n1_
         have BK180 := n2_
         have BK181 := n3_
         have BK191 := n4_
         have HB := n5_
         have HO199 := n6_
         clear n0_ n1_ n2_ n3_ n4_ n5_ n6_ ho hb hg hat
         refine hK.out _ _ ?_
         clear hK K
         refine norm_ (a' := ?_) ?_ ?_
         rotate_left
         ·
          show Act.put _ (some 47) _ = _
          simp only [Act.put,List.setIfInBounds_toArray,List.set_cons_zero,List.set_cons_succ,i64_w,i32_w]; rfl
         refine pure_ (i := 18) (N := some 5) (v := ?_) (a' := ?_) #[true,true,true,true,true,true,true,true,true,true,true,true,true,true,true,true,true,true,true] rfl rfl (any_of HT_.out (by kernel_rfl)) (fun _ _ _ h => h) (Or.inl ⟨by rfl,?_⟩) ?_ ?_; rotate_left
         · intro w'; go_simp; with_reducible rfl
         rotate_left
         · simp only [Act.put,List.setIfInBounds_toArray,List.set_cons_zero,List.set_cons_succ,i64_w,i32_w]; rfl
         refine done_ (done_of HT_.out (by kernel_rfl)) ?_
         obtain ⟨_,_,_,_,_,_,_,_,_,_⟩ := cz5 BK191.out
         try go_wp2
         go_roundg k1
         case measure => have := HK1.out; omega
         case rel => exact ⟨(y197),(wrap64 (x192000_1 + 1)),H',⟨by have := HK1.out; omega⟩,⟨by (with_reducible repeat (first|apply Kd.R_alloc|apply Kd.R_drewN|apply Kd.R_drew)); exact Kd.R_mono (zB (p := ⟨gb191,0,none⟩) (Kd.R_types HO199.out BK191.out (by decide)) (fun _ h=>h.2) (.int .i64 (wrap64 (x192000_1 + 1)))) (fun _ hk => trivial)⟩,⟨by (with_reducible repeat (first|apply Kd.R_alloc|apply Kd.R_drewN|apply Kd.R_drew)); exact Kd.R_mono (zB (p := ⟨gb191,0,none⟩) (Kd.R_types HO_192002.out BK191.out (by decide)) (fun _ h=>h.2) (.int .i64 (wrap64 (x192000_1 + 1)))) (fun _ hk => hk.1)⟩,⟨by (with_reducible repeat (first|apply Kd.R_alloc|apply Kd.R_drewN|apply Kd.R_drew)); exact Kd.R_mono (zB (p := ⟨gb191,0,none⟩) (Kd.R_types HO_192004.out BK191.out (by decide)) (fun _ h=>h.2) (.int .i64 (wrap64 (x192000_1 + 1)))) (fun _ hk => hk.1)⟩,⟨(bkT BK180.out)⟩,⟨(bkT BK181.out)⟩,⟨by (with_reducible repeat (first|refine zD ?_ _|refine zF ?_|refine zE ?_ _)); refine blk_put (cs := #[.int .i64 x192000_1,.int .i64 t183,.slice (some ad196) t184.length co12,.int .i64 t187,.slice Ao13 t188.length co13]) ?_ 0 _ rfl; (with_reducible repeat (first|refine zD ?_ _|refine zF ?_|refine zE ?_ _)); exact BK191.out⟩,⟨bT HB⟩⟩
        ·
         rw [if_neg c22] at H
         exact absurd H (by simp)
       ·
        rw [if_neg c21] at H
        exact absurd H (by simp)
      ·
       rw [if_neg c19] at H
       have c19b0 : decide ((wrap64 (x192000_1 - t183)) < (t184.length : Int)) = false := decide_eq_false c19
       clear c19
       simp only [Option.some.injEq,Prod.mk.injEq] at H
       obtain ⟨rfl,rfl,rfl,rfl,rfl,rfl⟩ := H
       have hnb32 := NB180_181.out
       have hnc32 := NB181_180.out
       have hnb33 := NB180_191.out
       have hnc33 := NB191_180.out
       obtain ⟨_,_,_,_,_,_,_,_,_,_⟩ := cz5 BK180.out
       go_wp2_with (first | ((with_reducible refine gate_callee (f := 22) rfl ?_); refine goesL_ (some 10) rfl rfl Try.func22 (by kernel_rfl) rfl #[.agg #[.int .i64 a0_0,.int .i64 a0_1,.slice A0_2 l0_2.length c0_2,.int .i64 a0_3,.slice A0_4 l0_4.length c0_4]] rfl (by (try simp only [List.map_toArray,List.map_cons,List.map_nil]); first | done|rfl|(simp only [List.length_drop,List.length_take]; rfl)) ?_; (with_reducible refine (spec_EndOk.calls k1 a0_0 a0_1 _ _ l0_2 a0_3 _ _ l0_4 true _ ?side1 ?side2 ?side3 ?side4 A16.out).mono ?_); (case side1 => exact ccT (Kd.C_below HR0_2.out HB.out)); (case side2 => exact HC0_2.out); (case side3 => exact ccT (Kd.C_below HR0_4.out HB.out)); (case side4 => exact HC0_4.out); rintro e w35 ⟨rfl,hb⟩; refine ⟨_,rfl,?_⟩; have n0_ := zA (zC (rrA6 HO_5.out) hb); have n1_ := zA (zC (rrA6 HO_192002.out) hb); have n2_ := zA (zC (rrA6 HO_192004.out) hb); have n3_ := zA (zG (bkT BK180.out) hb); have n4_ := zA (zG (bkT BK181.out) hb); have n5_ := zA (zG (bkT BK191.out) hb); have n6_ := zA (below_step (bT HB) hb); clear HO_5 HO_192002 HO_192004 BK180 BK181 BK191 HB; have HO_5 := n0_; have HO_192002 := n1_; have HO_192004 := n2_; have BK180 := n3_; have BK181 := n4_; have BK191 := n5_; have HB := n6_; clear n0_ n1_ n2_ n3_ n4_ n5_ n6_; have hnb36 := NB191_181.out; have hnc36 := NB181_191.out; obtain ⟨_,_,_,_,_,_,_,_,_,_⟩ := cz5 BK191.out; obtain ⟨_,_,_,_,_,_,_,_,_,_⟩ := cz5 BK181.out))
       refine bodyPost_ret (results_ct rfl _ _ gb181 26 #[.int .i64 x192000_1,.int .i64 t183,.slice Ao12 t184.length co12,.int .i64 t187,.slice Ao13 t188.length co13] (0,0) _ rfl (by (with_reducible repeat (first|refine zD ?_ _|refine zF ?_|refine zE ?_ _)); refine blk_put (cs := #[.int .i64 x192000_1,.int .i64 t183,.slice Ao12 t184.length co12,.int .i64 t187,.slice none 0 0]) ?_ 4 _ rfl; (with_reducible repeat (first|refine zD ?_ _|refine zF ?_|refine zE ?_ _)); refine blk_put (cs := #[.int .i64 x192000_1,.int .i64 t183,.slice Ao12 t184.length co12,.int .i64 0,.slice none 0 0]) ?_ 3 _ rfl; (with_reducible repeat (first|refine zD ?_ _|refine zF ?_|refine zE ?_ _)); refine blk_put (cs := #[.int .i64 x192000_1,.int .i64 t183,.slice none 0 0,.int .i64 0,.slice none 0 0]) ?_ 2 _ rfl; (with_reducible repeat (first|refine zD ?_ _|refine zF ?_|refine zE ?_ _)); refine blk_put (cs := #[.int .i64 x192000_1,.int .i64 0,.slice none 0 0,.int .i64 0,.slice none 0 0]) ?_ 1 _ rfl; (with_reducible repeat (first|refine zD ?_ _|refine zF ?_|refine zE ?_ _)); refine blk_put (cs := #[.int .i64 0,.int .i64 0,.slice none 0 0,.int .i64 0,.slice none 0 0]) ?_ 0 _ rfl; (with_reducible repeat (first|refine zD ?_ _|refine zF ?_|refine zE ?_ _)); exact BK181.out) Try.underlying26 rfl (by kernel_rfl)) rfl ?_
       exact ⟨_,_,_,by first|rfl|(simp [errW_none,errW_some] <;> rfl)|(simp [*,errW_none,errW_some] <;> rfl),by (with_reducible repeat (first|apply Kd.R_alloc|apply Kd.R_drewN|apply Kd.R_drew)); exact Kd.R_mono (zB (p := ⟨gb181,4,none⟩) (zB (p := ⟨gb181,3,none⟩) (zB (p := ⟨gb181,2,none⟩) (zB (p := ⟨gb181,1,none⟩) (zB (p := ⟨gb181,0,none⟩) (Kd.R_types HO_192002.out BK181.out (by decide)) (fun _ h=>h.2) (.int .i64 x192000_1)) (fun _ h=>h.2) (.int .i64 t183)) (fun _ h=>h.2) (.slice Ao12 t184.length co12)) (fun _ h=>h.2) (.int .i64 t187)) (fun _ h=>h.2) (.slice Ao13 t188.length co13)) (fun _ hk => hk.1),by (with_reducible repeat (first|apply Kd.R_alloc|apply Kd.R_drewN|apply Kd.R_drew)); exact Kd.R_mono (zB (p := ⟨gb181,4,none⟩) (zB (p := ⟨gb181,3,none⟩) (zB (p := ⟨gb181,2,none⟩) (zB (p := ⟨gb181,1,none⟩) (zB (p := ⟨gb181,0,none⟩) (Kd.R_types HO_192004.out BK181.out (by decide)) (fun _ h=>h.2) (.int .i64 x192000_1)) (fun _ h=>h.2) (.int .i64 t183)) (fun _ h=>h.2) (.slice Ao12 t184.length co12)) (fun _ h=>h.2) (.int .i64 t187)) (fun _ h=>h.2) (.slice Ao13 t188.length co13)) (fun _ hk => hk.1),by (with_reducible repeat (first|apply Kd.R_alloc|apply Kd.R_drewN|apply Kd.R_drew)); exact Kd.R_mono (zB (p := ⟨gb181,4,none⟩) (zB (p := ⟨gb181,3,none⟩) (zB (p := ⟨gb181,2,none⟩) (zB (p := ⟨gb181,1,none⟩) (zB (p := ⟨gb181,0,none⟩) (Kd.R_types HO_5.out BK181.out (by decide)) (fun _ h=>h.2) (.int .i64 x192000_1)) (fun _ h=>h.2) (.int .i64 t183)) (fun _ h=>h.2) (.slice Ao12 t184.length co12)) (fun _ h=>h.2) (.int .i64 t187)) (fun _ h=>h.2) (.slice Ao13 t188.length co13)) (fun _ hk => trivial),bT HB⟩
     ·
      rw [if_neg c18] at H
      have c18b0 : decide (x192000_1 < (wrap64 (t183 + 4))) = false := decide_eq_false c18
      clear c18
      simp only [Option.some.injEq,Prod.mk.injEq] at H
      obtain ⟨rfl,rfl,rfl,rfl,rfl,rfl⟩ := H
      have hnb39 := NB180_181.out
      have hnc39 := NB181_180.out
      have hnb40 := NB180_191.out
      have hnc40 := NB191_180.out
      obtain ⟨_,_,_,_,_,_,_,_,_,_⟩ := cz5 BK180.out
      go_wp2_with (first | ((with_reducible refine gate_callee (f := 22) rfl ?_); refine goesL_ (some 10) rfl rfl Try.func22 (by kernel_rfl) rfl #[.agg #[.int .i64 a0_0,.int .i64 a0_1,.slice A0_2 l0_2.length c0_2,.int .i64 a0_3,.slice A0_4 l0_4.length c0_4]] rfl (by (try simp only [List.map_toArray,List.map_cons,List.map_nil]); first | done|rfl|(simp only [List.length_drop,List.length_take]; rfl)) ?_; (with_reducible refine (spec_EndOk.calls k1 a0_0 a0_1 _ _ l0_2 a0_3 _ _ l0_4 true _ ?side1 ?side2 ?side3 ?side4 A16.out).mono ?_); (case side1 => exact ccT (Kd.C_below HR0_2.out HB.out)); (case side2 => exact HC0_2.out); (case side3 => exact ccT (Kd.C_below HR0_4.out HB.out)); (case side4 => exact HC0_4.out); rintro e w42 ⟨rfl,hb⟩; refine ⟨_,rfl,?_⟩; have n0_ := zA (zC (rrA6 HO_5.out) hb); have n1_ := zA (zC (rrA6 HO_192002.out) hb); have n2_ := zA (zC (rrA6 HO_192004.out) hb); have n3_ := zA (zG (bkT BK180.out) hb); have n4_ := zA (zG (bkT BK181.out) hb); have n5_ := zA (zG (bkT BK191.out) hb); have n6_ := zA (below_step (bT HB) hb); clear HO_5 HO_192002 HO_192004 BK180 BK181 BK191 HB; have HO_5 := n0_; have HO_192002 := n1_; have HO_192004 := n2_; have BK180 := n3_; have BK181 := n4_; have BK191 := n5_; have HB := n6_; clear n0_ n1_ n2_ n3_ n4_ n5_ n6_; have hnb43 := NB191_181.out; have hnc43 := NB181_191.out; obtain ⟨_,_,_,_,_,_,_,_,_,_⟩ := cz5 BK191.out; obtain ⟨_,_,_,_,_,_,_,_,_,_⟩ := cz5 BK181.out))
      refine bodyPost_ret (results_ct rfl _ _ gb181 26 #[.int .i64 x192000_1,.int .i64 t183,.slice Ao12 t184.length co12,.int .i64 t187,.slice Ao13 t188.length co13] (0,0) _ rfl (by (with_reducible repeat (first|refine zD ?_ _|refine zF ?_|refine zE ?_ _)); refine blk_put (cs := #[.int .i64 x192000_1,.int .i64 t183,.slice Ao12 t184.length co12,.int .i64 t187,.slice none 0 0]) ?_ 4 _ rfl; (with_reducible repeat (first|refine zD ?_ _|refine zF ?_|refine zE ?_ _)); refine blk_put (cs := #[.int .i64 x192000_1,.int .i64 t183,.slice Ao12 t184.length co12,.int .i64 0,.slice none 0 0]) ?_ 3 _ rfl; (with_reducible repeat (first|refine zD ?_ _|refine zF ?_|refine zE ?_ _)); refine blk_put (cs := #[.int .i64 x192000_1,.int .i64 t183,.slice none 0 0,.int .i64 0,.slice none 0 0]) ?_ 2 _ rfl; (with_reducible repeat (first|refine zD ?_ _|refine zF ?_|refine zE ?_ _)); refine blk_put (cs := #[.int .i64 x192000_1,.int .i64 0,.slice none 0 0,.int .i64 0,.slice none 0 0]) ?_ 1 _ rfl; (with_reducible repeat (first|refine zD ?_ _|refine zF ?_|refine zE ?_ _)); refine blk_put (cs := #[.int .i64 0,.int .i64 0,.slice none 0 0,.int .i64 0,.slice none 0 0]) ?_ 0 _ rfl; (with_reducible repeat (first|refine zD ?_ _|refine zF ?_|refine zE ?_ _)); exact BK181.out) Try.underlying26 rfl (by kernel_rfl)) rfl ?_
      exact ⟨_,_,_,by first|rfl|(simp [errW_none,errW_some] <;> rfl)|(simp [*,errW_none,errW_some] <;> rfl),by (with_reducible repeat (first|apply Kd.R_alloc|apply Kd.R_drewN|apply Kd.R_drew)); exact Kd.R_mono (zB (p := ⟨gb181,4,none⟩) (zB (p := ⟨gb181,3,none⟩) (zB (p := ⟨gb181,2,none⟩) (zB (p := ⟨gb181,1,none⟩) (zB (p := ⟨gb181,0,none⟩) (Kd.R_types HO_192002.out BK181.out (by decide)) (fun _ h=>h.2) (.int .i64 x192000_1)) (fun _ h=>h.2) (.int .i64 t183)) (fun _ h=>h.2) (.slice Ao12 t184.length co12)) (fun _ h=>h.2) (.int .i64 t187)) (fun _ h=>h.2) (.slice Ao13 t188.length co13)) (fun _ hk => hk.1),by (with_reducible repeat (first|apply Kd.R_alloc|apply Kd.R_drewN|apply Kd.R_drew)); exact Kd.R_mono (zB (p := ⟨gb181,4,none⟩) (zB (p := ⟨gb181,3,none⟩) (zB (p := ⟨gb181,2,none⟩) (zB (p := ⟨gb181,1,none⟩) (zB (p := ⟨gb181,0,none⟩) (Kd.R_types HO_192004.out BK181.out (by decide)) (fun _ h=>h.2) (.int .i64 x192000_1)) (fun _ h=>h.2) (.int .i64 t183)) (fun _ h=>h.2) (.slice Ao12 t184.length co12)) (fun _ h=>h.2) (.int .i64 t187)) (fun _ h=>h.2) (.slice Ao13 t188.length co13)) (fun _ hk => hk.1),by (with_reducible repeat (first|apply Kd.R_alloc|apply Kd.R_drewN|apply Kd.R_drew)); exact Kd.R_mono (zB (p := ⟨gb181,4,none⟩) (zB (p := ⟨gb181,3,none⟩) (zB (p := ⟨gb181,2,none⟩) (zB (p := ⟨gb181,1,none⟩) (zB (p := ⟨gb181,0,none⟩) (Kd.R_types HO_5.out BK181.out (by decide)) (fun _ h=>h.2) (.int .i64 x192000_1)) (fun _ h=>h.2) (.int .i64 t183)) (fun _ h=>h.2) (.slice Ao12 t184.length co12)) (fun _ h=>h.2) (.int .i64 t187)) (fun _ h=>h.2) (.slice Ao13 t188.length co13)) (fun _ hk => trivial),bT HB⟩
    ·
     replace c17 := Bool.eq_false_iff.mpr c17
     subst c17
     have H1 : (some (x192000_1,t183,t184,t187,t188,x5_1)) = some (r1,r2,r3,r4,r5,r6) := by rw [if_neg (show ¬ (false = true) by decide)] at H; exact H
     clear H; have H := H1; clear H1
     simp only [Option.some.injEq,Prod.mk.injEq] at H
     obtain ⟨rfl,rfl,rfl,rfl,rfl,rfl⟩ := H
     have hnb46 := NB180_181.out
     have hnc46 := NB181_180.out
     have hnb47 := NB180_191.out
     have hnc47 := NB191_180.out
     obtain ⟨_,_,_,_,_,_,_,_,_,_⟩ := cz5 BK180.out
     go_wp2_with (first | ((with_reducible refine gate_callee (f := 22) rfl ?_); refine goesL_ (some 10) rfl rfl Try.func22 (by kernel_rfl) rfl #[.agg #[.int .i64 a0_0,.int .i64 a0_1,.slice A0_2 l0_2.length c0_2,.int .i64 a0_3,.slice A0_4 l0_4.length c0_4]] rfl (by (try simp only [List.map_toArray,List.map_cons,List.map_nil]); first | done|rfl|(simp only [List.length_drop,List.length_take]; rfl)) ?_; (with_reducible refine (spec_EndOk.calls k1 a0_0 a0_1 _ _ l0_2 a0_3 _ _ l0_4 false _ ?side1 ?side2 ?side3 ?side4 A16.out).mono ?_); (case side1 => exact ccT (Kd.C_below HR0_2.out HB.out)); (case side2 => exact HC0_2.out); (case side3 => exact ccT (Kd.C_below HR0_4.out HB.out)); (case side4 => exact HC0_4.out); rintro e w49 ⟨rfl,hb⟩; refine ⟨_,rfl,?_⟩; have n0_ := zA (zC (rrA6 HO_5.out) hb); have n1_ := zA (zC (rrA6 HO_192002.out) hb); have n2_ := zA (zC (rrA6 HO_192004.out) hb); have n3_ := zA (zG (bkT BK180.out) hb); have n4_ := zA (zG (bkT BK181.out) hb); have n5_ := zA (zG (bkT BK191.out) hb); have n6_ := zA (below_step (bT HB) hb); clear HO_5 HO_192002 HO_192004 BK180 BK181 BK191 HB; have HO_5 := n0_; have HO_192002 := n1_; have HO_192004 := n2_; have BK180 := n3_; have BK181 := n4_; have BK191 := n5_; have HB := n6_; clear n0_ n1_ n2_ n3_ n4_ n5_ n6_; have hnb50 := NB191_181.out; have hnc50 := NB181_191.out; obtain ⟨_,_,_,_,_,_,_,_,_,_⟩ := cz5 BK191.out; obtain ⟨_,_,_,_,_,_,_,_,_,_⟩ := cz5 BK181.out))
     refine bodyPost_ret (results_ct rfl _ _ gb181 26 #[.int .i64 x192000_1,.int .i64 t183,.slice Ao12 t184.length co12,.int .i64 t187,.slice Ao13 t188.length co13] (0,0) _ rfl (by (with_reducible repeat (first|refine zD ?_ _|refine zF ?_|refine zE ?_ _)); refine blk_put (cs := #[.int .i64 x192000_1,.int .i64 t183,.slice Ao12 t184.length co12,.int .i64 t187,.slice none 0 0]) ?_ 4 _ rfl; (with_reducible repeat (first|refine zD ?_ _|refine zF ?_|refine zE ?_ _)); refine blk_put (cs := #[.int .i64 x192000_1,.int .i64 t183,.slice Ao12 t184.length co12,.int .i64 0,.slice none 0 0]) ?_ 3 _ rfl; (with_reducible repeat (first|refine zD ?_ _|refine zF ?_|refine zE ?_ _)); refine blk_put (cs := #[.int .i64 x192000_1,.int .i64 t183,.slice none 0 0,.int .i64 0,.slice none 0 0]) ?_ 2 _ rfl; (with_reducible repeat (first|refine zD ?_ _|refine zF ?_|refine zE ?_ _)); refine blk_put (cs := #[.int .i64 x192000_1,.int .i64 0,.slice none 0 0,.int .i64 0,.slice none 0 0]) ?_ 1 _ rfl; (with_reducible repeat (first|refine zD ?_ _|refine zF ?_|refine zE ?_ _)); refine blk_put (cs := #[.int .i64 0,.int .i64 0,.slice none 0 0,.int .i64 0,.slice none 0 0]) ?_ 0 _ rfl; (with_reducible repeat (first|refine zD ?_ _|refine zF ?_|refine zE ?_ _)); exact BK181.out) Try.underlying26 rfl (by kernel_rfl)) rfl ?_
     exact ⟨_,_,_,by first|rfl|(simp [errW_none,errW_some] <;> rfl)|(simp [*,errW_none,errW_some] <;> rfl),by (with_reducible repeat (first|apply Kd.R_alloc|apply Kd.R_drewN|apply Kd.R_drew)); exact Kd.R_mono (zB (p := ⟨gb181,4,none⟩) (zB (p := ⟨gb181,3,none⟩) (zB (p := ⟨gb181,2,none⟩) (zB (p := ⟨gb181,1,none⟩) (zB (p := ⟨gb181,0,none⟩) (Kd.R_types HO_192002.out BK181.out (by decide)) (fun _ h=>h.2) (.int .i64 x192000_1)) (fun _ h=>h.2) (.int .i64 t183)) (fun _ h=>h.2) (.slice Ao12 t184.length co12)) (fun _ h=>h.2) (.int .i64 t187)) (fun _ h=>h.2) (.slice Ao13 t188.length co13)) (fun _ hk => hk.1),by (with_reducible repeat (first|apply Kd.R_alloc|apply Kd.R_drewN|apply Kd.R_drew)); exact Kd.R_mono (zB (p := ⟨gb181,4,none⟩) (zB (p := ⟨gb181,3,none⟩) (zB (p := ⟨gb181,2,none⟩) (zB (p := ⟨gb181,1,none⟩) (zB (p := ⟨gb181,0,none⟩) (Kd.R_types HO_192004.out BK181.out (by decide)) (fun _ h=>h.2) (.int .i64 x192000_1)) (fun _ h=>h.2) (.int .i64 t183)) (fun _ h=>h.2) (.slice Ao12 t184.length co12)) (fun _ h=>h.2) (.int .i64 t187)) (fun _ h=>h.2) (.slice Ao13 t188.length co13)) (fun _ hk => hk.1),by (with_reducible repeat (first|apply Kd.R_alloc|apply Kd.R_drewN|apply Kd.R_drew)); exact Kd.R_mono (zB (p := ⟨gb181,4,none⟩) (zB (p := ⟨gb181,3,none⟩) (zB (p := ⟨gb181,2,none⟩) (zB (p := ⟨gb181,1,none⟩) (zB (p := ⟨gb181,0,none⟩) (Kd.R_types HO_5.out BK181.out (by decide)) (fun _ h=>h.2) (.int .i64 x192000_1)) (fun _ h=>h.2) (.int .i64 t183)) (fun _ h=>h.2) (.slice Ao12 t184.length co12)) (fun _ h=>h.2) (.int .i64 t187)) (fun _ h=>h.2) (.slice Ao13 t188.length co13)) (fun _ hk => trivial),bT HB⟩

end Go.Proofs.Ytlidnobkkgcnlaa.PFnExactTalk
