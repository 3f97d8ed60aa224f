-- Written by a program out of the translation, for this claim.
import Derived.Test.YtlidnobkkgcnlaaPFnLinksx0
import Derived.Test.YtlidnobkkgcnlaaPFnLinksx16
import Derived.Test.YtlidnobkkgcnlaaPFnLinksx17
import Derived.Test.YtlidnobkkgcnlaaPFnLinksx18
namespace Go.Proofs.Ytlidnobkkgcnlaa.PFnLinks
open Go.RowKit Go.Proofs.YtlidnobkkgcnlaaW.PrintWords Go.Proofs.YtlidnobkkgcnlaaW.PrintLast Go.Proofs.YtlidnobkkgcnlaaW.PrintMore
attribute [local go_sem] max2_int min2_int max_two min_two max_three min_three max_four min_four   -- for this text's walks alone
set_option linter.unusedVariables false
set_option linter.unusedSimpArgs false

/-! ### impl_Talk: function 38, by hand -/

theorem rrAT {p q : Prop} (h : p) (f : p → q := by (intro h_; (with_reducible repeat (first | apply Kd.R_alloc | apply Kd.R_drewN | apply Kd.R_drew)); exact h_)) : q := f h
theorem rrBT {p q : Prop} (h : p) (f : p → q := by (intro h_; (with_reducible repeat (first | refine blk_drewN ?_ _ | refine blk_drew ?_ | refine blk_alloc ?_ _)); exact h_)) : q := f h
def impl_talk_pick.f (k : Nat) (n : Int) (s0 : Int) (s1 : Int) (s2 : List ByteArray) (s3 : Int) (s4 : List ByteArray) (s5 : Int) (s6 : Int) (s7 : List ByteArray) (s8 : Int) (s9 : List ByteArray) (s10 : List (S36)) (s11 : List (S36)) : Option (Int × Int × List ByteArray × Int × List ByteArray × Int × Int × List ByteArray × Int × List ByteArray × List (S36) × List (S36)) := (if (Int.tmod n 4) = 0 then ((impl_SendNew.f k s0 s1 s2 s3 s4).bind fun bt461 => (if s10.length + bt461.2.2.2.2.2.length < 4398046511104 then (some (bt461.1,bt461.2.1,bt461.2.2.1,bt461.2.2.2.1,bt461.2.2.2.2.1,s5,s6,s7,s8,s9,(s10 ++ bt461.2.2.2.2.2),s11)) else (none))) else (if (Int.tmod n 4) = 1 then ((impl_SendAgain.f k s0 s1 s2 s3 s4).bind fun t477 => (if s10.length + t477.length < 4398046511104 then (some (s0,s1,s2,s3,s4,s5,s6,s7,s8,s9,(s10 ++ t477),s11)) else (none))) else (if (Int.tmod n 4) = 2 then (if (s10.length : Int) = 0 then (some (s0,s1,s2,s3,s4,s5,s6,s7,s8,s9,s10,s11)) else (if 0 < (s10.length : Int) then (if 1 ≤ (s10.length : Int) then ((some (s10.drop (1 : Int).toNat : List (S36))).bind fun y485 => (if ((Int.tmod (wrap64 (Int.tdiv n 4)) 2) = 1) then (some (s0,s1,s2,s3,s4,s5,s6,s7,s8,s9,y485,s11)) else ((impl_Receive.f k s5 s6 s7 s8 s9 ((rd_T36 s10 0).f0) ((rd_T36 s10 0).f1) ((rd_T36 s10 0).f2)).bind fun bt488 => ((impl_SendAgain.f k bt488.1 bt488.2.1 bt488.2.2.1 bt488.2.2.2.1 bt488.2.2.2.2.1).bind fun t498 => (if s11.length + t498.length < 4398046511104 then (some (s0,s1,s2,s3,s4,bt488.1,bt488.2.1,bt488.2.2.1,bt488.2.2.2.1,bt488.2.2.2.2.1,y485,(s11 ++ t498))) else (none)))))) else (none)) else (none))) else (if (Int.tmod n 4) = 3 then (if (s11.length : Int) = 0 then (some (s0,s1,s2,s3,s4,s5,s6,s7,s8,s9,s10,s11)) else (if 0 < (s11.length : Int) then (if 1 ≤ (s11.length : Int) then ((some (s11.drop (1 : Int).toNat : List (S36))).bind fun y506 => (if ((Int.tmod (wrap64 (Int.tdiv n 4)) 2) = 1) then (some (s0,s1,s2,s3,s4,s5,s6,s7,s8,s9,s10,y506)) else ((impl_Receive.f k s0 s1 s2 s3 s4 ((rd_T36 s11 0).f0) ((rd_T36 s11 0).f1) ((rd_T36 s11 0).f2)).bind fun bt509 => (some (bt509.1,bt509.2.1,bt509.2.2.1,bt509.2.2.2.1,bt509.2.2.2.2.1,s5,s6,s7,s8,s9,s10,y506))))) else (none)) else (none))) else (some (s0,s1,s2,s3,s4,s5,s6,s7,s8,s9,s10,s11))))))
theorem impl_talk_pick.mono : ∀ n s0 s1 s2 s3 s4 s5 s6 s7 s8 s9 s10 s11 k, LeO (impl_talk_pick.f k n s0 s1 s2 s3 s4 s5 s6 s7 s8 s9 s10 s11) (impl_talk_pick.f (k + 1) n s0 s1 s2 s3 s4 s5 s6 s7 s8 s9 s10 s11) := by
  intro n s0 s1 s2 s3 s4 s5 s6 s7 s8 s9 s10 s11 k
  unfold impl_talk_pick.f
  repeat' first
   | (with_reducible exact impl_Receive.mono _ _ _ _ _ _ _ _ _)
   | (with_reducible exact impl_SendAgain.mono _ _ _ _ _ _)
   | (with_reducible exact impl_SendNew.mono _ _ _ _ _ _)
   | (with_reducible exact LeO.refl _)
   | (with_reducible exact LeO.none _)
   | (with_reducible refine LeO.ite ?_ ?_)
   | (with_reducible refine LeO.bind ?_ (fun _ => ?_))
   | exact impl_Receive.mono _ _ _ _ _ _ _ _ _
   | exact impl_SendAgain.mono _ _ _ _ _ _
   | exact impl_SendNew.mono _ _ _ _ _ _
   | exact LeO.none _
   | refine LeO.ite ?_ ?_
   | refine LeO.bind ?_ (fun _ => ?_)
def impl_talk_pick.T7 : Bool × List (List Nat × List Nat) := (true,[([],[]),([],[]),([1],[1]),([2],[2]),([3],[3]),([],[]),([5],[5]),([6],[6]),([7],[7]),([8],[8]),([4,9,9],[4,9]),([0,0,1,2,3,4,5,6,7,8,9,10],[0]),([11,0,1,2,3,4,5,6,7,8,9,10],[11]),([12,10,10,0,1,2,3,4,5,6,7,8,9,10],[10,12])])
def impl_talk_pick.B7 : List Nat := [0,0,2,6,14,0,32,96,224,480,1022,2047,4095,8191]
theorem impl_talk_pick.tab7 : rtab .any (opsOf Try.f60 7) = impl_talk_pick.T7 := by kernel_rfl
theorem impl_talk_pick.bits7 : waitsOk impl_talk_pick.T7.2 impl_talk_pick.B7 = true := by kernel_rfl
def impl_talk_pick.T13 : Bool × List (List Nat × List Nat) := (true,[([],[]),([],[]),([1],[1]),([2],[2]),([3],[3]),([],[]),([4,5],[4,5]),([6],[6]),([7],[7]),([7],[7]),([0,0,1,2,3,4,5,6,7,8],[0]),([10,0,1,2,3,4,5,6,7,8],[10]),([11,8,6,0,1,2,3,4,5,6,7,8],[8,11])])
def impl_talk_pick.B13 : List Nat := [0,0,2,6,14,0,62,126,254,254,511,1535,3583]
theorem impl_talk_pick.tab13 : rtab .any (opsOf Try.f60 13) = impl_talk_pick.T13 := by kernel_rfl
theorem impl_talk_pick.bits13 : waitsOk impl_talk_pick.T13.2 impl_talk_pick.B13 = true := by kernel_rfl
def impl_talk_pick.T14 : Bool × List (List Nat × List Nat) := (true,[([],[]),([],[]),([1],[1]),([2],[2]),([3],[3]),([],[]),([5],[5]),([6],[6]),([7],[7]),([8],[8]),([4,9,9],[4,9]),([0,0,1,2,3,4,5,6,7,8,9,10],[0]),([11,0,1,2,3,4,5,6,7,8,9,10],[11]),([12,10,10,0,1,2,3,4,5,6,7,8,9,10],[10,12])])
def impl_talk_pick.B14 : List Nat := [0,0,2,6,14,0,32,96,224,480,1022,2047,4095,8191]
theorem impl_talk_pick.tab14 : rtab .any (opsOf Try.f60 14) = impl_talk_pick.T14 := by kernel_rfl
theorem impl_talk_pick.bits14 : waitsOk impl_talk_pick.T14.2 impl_talk_pick.B14 = true := by kernel_rfl
def impl_talk_pick.T20 : Bool × List (List Nat × List Nat) := (true,[([],[]),([],[]),([1],[1]),([2],[2]),([3],[3]),([],[]),([4,5],[4,5]),([6],[6]),([7],[7]),([7],[7]),([0,0,1,2,3,4,5,6,7,8],[0]),([10,0,1,2,3,4,5,6,7,8],[10]),([11,8,6,0,1,2,3,4,5,6,7,8],[8,11])])
def impl_talk_pick.B20 : List Nat := [0,0,2,6,14,0,62,126,254,254,511,1535,3583]
theorem impl_talk_pick.tab20 : rtab .any (opsOf Try.f60 20) = impl_talk_pick.T20 := by kernel_rfl
theorem impl_talk_pick.bits20 : waitsOk impl_talk_pick.T20.2 impl_talk_pick.B20 = true := by kernel_rfl
set_option maxHeartbeats 16000000 in
set_option maxRecDepth 100000 in
theorem impl_talk_pick.calls (k4 : Nat) (gb443 : Nat) (n : Int) (x444000_4 : Int) (x444001_4 : Int) (x444002_4 : List ByteArray) (x444003_4 : Int) (x444004_4 : List ByteArray) (x444005_4 : Int) (x444006_4 : Int) (x444007_4 : List ByteArray) (x444008_4 : Int) (x444009_4 : List ByteArray) (x444010_4 : List (S36)) (x444011_4 : List (S36)) (r0 : Int) (r1 : Int) (r2 : List ByteArray) (r3 : Int) (r4 : List ByteArray) (r5 : Int) (r6 : Int) (r7 : List ByteArray) (r8 : Int) (r9 : List ByteArray) (r10 : List (S36)) (r11 : List (S36)) (u444002 u444004 u444007 u444009 u444010 u444011 : Value) (w wr : World) (GE443 : Aside0 (w.heap.size ≤ gb443)) (HREL : Aside0 (Kd.Q Kd.string 9 wr w.heap.size (fun k_ => some k_ ≠ (u444004 : Value).ownBlock ∧ some k_ ≠ (u444007 : Value).ownBlock ∧ some k_ ≠ (u444009 : Value).ownBlock) u444002 x444002_4) ∧ Aside0 (Kd.R Kd.string 9 wr w.heap.size (fun k_ => some k_ ≠ (u444002 : Value).ownBlock ∧ some k_ ≠ (u444007 : Value).ownBlock ∧ some k_ ≠ (u444009 : Value).ownBlock) u444004 x444004_4) ∧ Aside0 (Kd.Q Kd.string 9 wr w.heap.size (fun k_ => some k_ ≠ (u444002 : Value).ownBlock ∧ some k_ ≠ (u444004 : Value).ownBlock ∧ some k_ ≠ (u444009 : Value).ownBlock) u444007 x444007_4) ∧ Aside0 (Kd.R Kd.string 9 wr w.heap.size (fun k_ => some k_ ≠ (u444002 : Value).ownBlock ∧ some k_ ≠ (u444004 : Value).ownBlock ∧ some k_ ≠ (u444007 : Value).ownBlock) u444009 x444009_4) ∧ Aside0 (Kd.Q k36 36 wr w.heap.size (fun k_ => some k_ ≠ (u444011 : Value).ownBlock) u444010 x444010_4) ∧ Aside0 (Kd.Q k36 36 wr w.heap.size (fun k_ => some k_ ≠ (u444010 : Value).ownBlock) u444011 x444011_4) ∧ Aside0 (wr.heap[gb443]? = some (.cells #[.int .i64 x444000_4,.int .i64 x444001_4,u444002,.int .i64 x444003_4,u444004,.int .i64 x444005_4,.int .i64 x444006_4,u444007,.int .i64 x444008_4,u444009,u444010,u444011] 78 (0,0))) ∧ Aside0 (Below w.heap.size w wr)) (H : impl_talk_pick.f k4 n x444000_4 x444001_4 x444002_4 x444003_4 x444004_4 x444005_4 x444006_4 x444007_4 x444008_4 x444009_4 x444010_4 x444011_4 = some (r0,r1,r2,r3,r4,r5,r6,r7,r8,r9,r10,r11)) :
    Calls Try.prog 60 #[.pointer (some ⟨gb443,0,none⟩),.int .i64 n] wr fun e w' => ∃ u444002 u444004 u444007 u444009 u444010 u444011 : Value, e = .returned (.tuple #[]) ∧ Aside0 (Kd.Q Kd.string 9 w' w.heap.size (fun k_ => some k_ ≠ (u444004 : Value).ownBlock ∧ some k_ ≠ (u444007 : Value).ownBlock ∧ some k_ ≠ (u444009 : Value).ownBlock) u444002 r2) ∧ Aside0 (Kd.R Kd.string 9 w' w.heap.size (fun k_ => some k_ ≠ (u444002 : Value).ownBlock ∧ some k_ ≠ (u444007 : Value).ownBlock ∧ some k_ ≠ (u444009 : Value).ownBlock) u444004 r4) ∧ Aside0 (Kd.Q Kd.string 9 w' w.heap.size (fun k_ => some k_ ≠ (u444002 : Value).ownBlock ∧ some k_ ≠ (u444004 : Value).ownBlock ∧ some k_ ≠ (u444009 : Value).ownBlock) u444007 r7) ∧ Aside0 (Kd.R Kd.string 9 w' w.heap.size (fun k_ => some k_ ≠ (u444002 : Value).ownBlock ∧ some k_ ≠ (u444004 : Value).ownBlock ∧ some k_ ≠ (u444007 : Value).ownBlock) u444009 r9) ∧ Aside0 (Kd.Q k36 36 w' w.heap.size (fun k_ => some k_ ≠ (u444011 : Value).ownBlock) u444010 r10) ∧ Aside0 (Kd.Q k36 36 w' w.heap.size (fun k_ => some k_ ≠ (u444010 : Value).ownBlock) u444011 r11) ∧ Aside0 (w'.heap[gb443]? = some (.cells #[.int .i64 r0,.int .i64 r1,u444002,.int .i64 r3,u444004,.int .i64 r5,.int .i64 r6,u444007,.int .i64 r8,u444009,u444010,u444011] 78 (0,0))) ∧ Aside0 (Below w.heap.size w w') := by
  have hu78 := Try.underlying78
  have hu26 := Try.underlying26
  have hu36 := Try.underlying36
  obtain ⟨HO_444002,HO_444004,HO_444007,HO_444009,HO_444010,HO_444011,BK443,HB⟩ := HREL
  have GW443 := GE443
  unfold impl_talk_pick.f at H
  go_enter Try.func60,Try.ntmps60
  by_cases c27 : (Int.tmod n 4) = 0
  ·
   rw [if_pos c27] at H
   have c27b0 : ((Int.tmod n 4) == 0) = true := beq_iff_eq.mpr c27
   have c27b1 : ((Int.tmod n 4) != 0) = false := bne_eq_false_iff_eq.mpr c27
   clear c27
   replace H := Option.bind_eq_some_iff.mp H
   obtain ⟨⟨t461,t462,t463,t466,t467,t470⟩,A280,H⟩ := H
   replace H : (if x444010_4.length + t470.length < 4398046511104 then (some (t461,t462,t463,t466,t467,x444005_4,x444006_4,x444007_4,x444008_4,x444009_4,(x444010_4 ++ t470),x444011_4)) else (none)) = some (r0,r1,r2,r3,r4,r5,r6,r7,r8,r9,r10,r11) := H
   have A28 := Aside0.mk A280
   clear A280
   by_cases c29 : x444010_4.length + t470.length < 4398046511104
   ·
    rw [if_pos c29] at H
    have LMc29 := Aside0.mk c29
    clear c29
    obtain ⟨y474,hy474⟩ : ∃ y_ : List (S36),y_ = (x444010_4 ++ t470) := ⟨_,rfl⟩
    replace H : (some (t461,t462,t463,t466,t467,x444005_4,x444006_4,x444007_4,x444008_4,x444009_4,y474,x444011_4)) = some (r0,r1,r2,r3,r4,r5,r6,r7,r8,r9,r10,r11) := by first | (rw [hy474]; with_reducible exact H) | (have H2_ := (Option.bind_some _ _).symm.trans H; rw [hy474]; with_reducible exact H2_) | (have H2_ := (Option.bind_some _ _).symm.trans H; with_reducible exact H2_)|with_reducible exact H | (rw [hy474]; exact H)|exact H
    have Ny474 := Aside0.mk hy474
    clear hy474
    have H' := Aside0.mk H
    clear H
    obtain ⟨_,_,_,_,_,_,_,_,_,_,_,_,_,_,_,_,_,_,_,_,_,_,_,_⟩ := cz12 BK443.out
    obtain ⟨Ao31,co31,eo31,_⟩ := Kd.Q_slice HO_444002.out
    subst eo31
    obtain ⟨Ao32,co32,eo32⟩ := Kd.R_slice HO_444004.out
    subst eo32
    go_wp2_with (first | ((with_reducible refine gate_callee (f := 32) rfl ?_); refine goesL_ (some 22) rfl rfl Try.func32 (by kernel_rfl) rfl #[.agg #[.int .i64 x444000_4,.int .i64 x444001_4,.slice Ao31 x444002_4.length co31,.int .i64 x444003_4,.slice Ao32 x444004_4.length co32]] rfl (by (try simp only [List.map_toArray,List.map_cons,List.map_nil]); first | done|rfl|(simp only [List.length_drop,List.length_take]; rfl)) ?_; (with_reducible refine (impl_SendNew.calls k4 x444000_4 x444001_4 _ _ x444002_4 x444003_4 _ _ x444004_4 t461 t462 t463 t466 t467 t470 _ ?side1 ?side2 ?side3 ?side4 A28.out).mono ?_); (case side1 => exact ccT ((Kd.Q_reads' HO_444002.out).2.2)); (case side2 => exact (Kd.Q_reads' HO_444002.out).2.1); (case side3 => exact ccT ((Kd.R_reads' HO_444004.out).2.2)); (case side4 => exact (Kd.R_reads' HO_444004.out).2.1); rintro e w33 ⟨v464,v468,v471,rfl,ho0,ho1,ho2,hb⟩; refine ⟨_,rfl,?_⟩; have n0_ := Aside0.mk (Kd.Q_mono (Kd.Q_told (Kd.Q_told (Kd.Q_old (rrQ HO_444002.out) hb) (Kd.R_base ho0)) (Kd.R_base ho1)) (fun _ h_ => h_.1)); have n1_ := Aside0.mk (Kd.R_mono (Kd.R_told (Kd.R_told (Kd.R_old (rrAT HO_444004.out) hb) (Kd.R_base ho0)) (Kd.R_base ho1)) (fun _ h_ => h_.1)); have n2_ := Aside0.mk (Kd.Q_mono (Kd.Q_told (Kd.Q_told (Kd.Q_old (rrQ HO_444007.out) hb) (Kd.R_base ho0)) (Kd.R_base ho1)) (fun _ h_ => h_.1)); have n3_ := Aside0.mk (Kd.R_mono (Kd.R_told (Kd.R_told (Kd.R_old (rrAT HO_444009.out) hb) (Kd.R_base ho0)) (Kd.R_base ho1)) (fun _ h_ => h_.1)); have n4_ := Aside0.mk (Kd.Q_elder' (rrQ HO_444010.out) (Kd.R_base ho2) hb); have n5_ := Aside0.mk (Kd.Q_elder' (rrQ HO_444011.out) (Kd.R_base ho2) hb); have n6_ := Aside0.mk (Kd.R_lower (Kd.R_new' (Kd.R_new' (Kd.R_new' (Kd.R_new' ho0 (Kd.Q_lt (rrQ HO_444002.out))) (Kd.R_lt (rrAT HO_444004.out))) (Kd.Q_lt (rrQ HO_444007.out))) (Kd.R_lt (rrAT HO_444009.out))) (below_size (bT HB))); have n7_ := Aside0.mk (Kd.R_lower (Kd.R_new' (Kd.R_new' (Kd.R_new' (Kd.R_new' ho1 (Kd.Q_lt (rrQ HO_444002.out))) (Kd.R_lt (rrAT HO_444004.out))) (Kd.Q_lt (rrQ HO_444007.out))) (Kd.R_lt (rrAT HO_444009.out))) (below_size (bT HB))); have n8_ := Aside0.mk (Kd.R_lower (Kd.R_new' (Kd.R_new' ho2 (Kd.Q_lt (rrQ HO_444010.out))) (Kd.Q_lt (rrQ HO_444011.out))) (below_size (bT HB))); have n9_ := Aside0.mk (blk_below (bkT BK443.out) hb); have n10_ := Aside0.mk (below_step (bT HB) hb); clear HO_444002 HO_444004 HO_444007 HO_444009 HO_444010 HO_444011 BK443 HB; have HO_444002 := n0_; have HO_444004 := n1_; have HO_444007 := n2_; have HO_444009 := n3_; have HO_444010 := n4_; have HO_444011 := n5_; have HO465 := n6_; have HO469 := n7_; have HO472 := n8_; have BK443 := n9_; have HB := n10_; clear n0_ n1_ n2_ n3_ n4_ n5_ n6_ n7_ n8_ n9_ n10_) | ((with_reducible refine gate_dst (N := 5) rfl ?_); (try (refine gate_guard (by rfl) ?_; dsimp only)); refine box_event ?hg (N := 5) ?hd (cs := #[.int .i64 0,.int .i64 0,.slice none 0 0,.int .i64 0,.slice none 0 0]) (t := 26) ?hr ?_; (case hd => rfl); (case hg => rfl); (case hr => first | (go_simp; done) | (go_simp; rfl)); intro gb473 hg w34 hbox hb; have n0_ := Aside0.mk (Kd.Q_below (rrQ HO_444002.out) hb); have n1_ := Aside0.mk (Kd.R_below (rrAT HO_444004.out) hb); have n2_ := Aside0.mk (Kd.Q_below (rrQ HO_444007.out) hb); have n3_ := Aside0.mk (Kd.R_below (rrAT HO_444009.out) hb); have n4_ := Aside0.mk (Kd.Q_below (rrQ HO_444010.out) hb); have n5_ := Aside0.mk (Kd.Q_below (rrQ HO_444011.out) hb); have n6_ := Aside0.mk (Kd.R_below (rrAT HO465.out) hb); have n7_ := Aside0.mk (Kd.R_below (rrAT HO469.out) hb); have n8_ := Aside0.mk (Kd.R_below (rrAT HO472.out) hb); have n9_ := Aside0.mk (blk_below (bkT BK443.out) hb); have n10_ := Aside0.mk (below_step (bT HB) hb); have n11_ := Aside0.mk (hbox); have n12_ := Aside0.mk ((by rw [hg]; exact (below_size (bT HB)) : w.heap.size ≤ gb473)); have n13_ := Aside0.mk ((by rw [hg]; exact (below_size (bT HB)) : w.heap.size ≤ gb473)); have n14_ := Aside0.mk ((by rw [hg]; exact Nat.ne_of_lt (blk_lt (g := gb443) (o := .cells #[.int .i64 x444000_4,.int .i64 x444001_4,.slice Ao31 x444002_4.length co31,.int .i64 x444003_4,.slice Ao32 x444004_4.length co32,.int .i64 x444005_4,.int .i64 x444006_4,u444007,.int .i64 x444008_4,u444009,u444010,u444011] 78 (0,0)) (bkT BK443.out)) : gb443 ≠ gb473)); have n15_ := Aside0.mk ((by rw [hg]; exact Nat.ne_of_gt (blk_lt (g := gb443) (o := .cells #[.int .i64 x444000_4,.int .i64 x444001_4,.slice Ao31 x444002_4.length co31,.int .i64 x444003_4,.slice Ao32 x444004_4.length co32,.int .i64 x444005_4,.int .i64 x444006_4,u444007,.int .i64 x444008_4,u444009,u444010,u444011] 78 (0,0)) (bkT BK443.out)) : gb473 ≠ gb443)); clear HO_444002 HO_444004 HO_444007 HO_444009 HO_444010 HO_444011 HO465 HO469 HO472 BK443 HB; have HO_444002 := n0_; have HO_444004 := n1_; have HO_444007 := n2_; have HO_444009 := n3_; have HO_444010 := n4_; have HO_444011 := n5_; have HO465 := n6_; have HO469 := n7_; have HO472 := n8_; have BK443 := n9_; have HB := n10_; have BK473 := n11_; have GW473 := n12_; have GE473 := n13_; have NB443_473 := n14_; have NB473_443 := n15_; clear n0_ n1_ n2_ n3_ n4_ n5_ n6_ n7_ n8_ n9_ n10_ n11_ n12_ n13_ n14_ n15_ hb hbox hg; have hnb35 := NB473_443.out; have hnc35 := NB443_473.out; obtain ⟨_,_,_,_,_,_,_,_,_,_⟩ := cz5 BK473.out; obtain ⟨Ao37,co37,eo37⟩ := Kd.R_slice HO465.out; subst eo37; obtain ⟨Ao38,co38,eo38⟩ := Kd.R_slice HO469.out; subst eo38; obtain ⟨_,_,_,_,_,_,_,_,_,_,_,_,_,_,_,_,_,_,_,_,_,_,_,_⟩ := cz12 BK443.out; obtain ⟨Ao41,co41,eo41⟩ := Kd.R_slice HO472.out; subst eo41) | ((with_reducible refine gate_builtin (b := .append) (xs := #[.tmp 33,.tmp 34]) rfl ?_); (try (refine gate_guard (by rfl) ?_; dsimp only)); at_builtin; refine Kd.Q_append_rows k36 (w0 := w) w.heap.size rfl (.tmp 33) (.tmp 34) 45 36 (.agg #[(.int .i64 0),(.int .i64 0),(.string ⟨#[]⟩)]) 32 rfl Try.underlying45 info36 rfl (by decide) (by omega) u444010 x444010_4 t470 _ _ _ (fun k_ => some k_ ≠ (u444011 : Value).ownBlock ∧ some k_ ≠ (.slice Ao41 t470.length co41 : Value).ownBlock) (fun _ => False) rfl rfl ?aO ?aR (fun _ _ h => h) (fun _ h => h.elim) ?aF ?aB ?aS ?aL ?_; (case aR => refine (Kd.R_reads' (e := 36) (base := w.heap.size) (ok := fun k_ => ((True ∧ some k_ ≠ (u444010 : Value).ownBlock) ∧ some k_ ≠ (u444011 : Value).ownBlock)) (n := t470.length) (c := co41) ?_).2.2; exact (rrAT (Kd.R_mono (Kd.R_mono (Kd.R_far (p := ⟨gb443,4,none⟩) (Kd.R_far (p := ⟨gb443,3,none⟩) (Kd.R_far (p := ⟨gb443,2,none⟩) (Kd.R_far (p := ⟨gb443,1,none⟩) (Kd.R_far (p := ⟨gb443,0,none⟩) (Kd.R_far (p := ⟨gb473,4,none⟩) (Kd.R_far (p := ⟨gb473,3,none⟩) (Kd.R_far (p := ⟨gb473,2,none⟩) (Kd.R_far (p := ⟨gb473,1,none⟩) (Kd.R_far (p := ⟨gb473,0,none⟩) (Kd.R_types (Kd.R_types HO472.out BK473.out (by decide)) BK443.out (by decide)) (fun _ hk => hk.1.2) (.int .i64 t461)) (fun _ hk => hk.1.2) (.int .i64 t462)) (fun _ hk => hk.1.2) (.slice Ao37 t463.length co37)) (fun _ hk => hk.1.2) (.int .i64 t466)) (fun _ hk => hk.1.2) (.slice Ao38 t467.length co38)) (fun _ h=>h.2) (.int .i64 t461)) (fun _ h=>h.2) (.int .i64 t462)) (fun _ h=>h.2) (.slice Ao37 t463.length co37)) (fun _ h=>h.2) (.int .i64 t466)) (fun _ h=>h.2) (.slice Ao38 t467.length co38)) (fun _ h_ => h_.1)) (fun _ h_ => h_.1)))); (case aB => exact (bT HB)); (case aF => exact (fun k_ hk => ⟨Kd.fresh' (Kd.Q_lt (by (with_reducible repeat (first|apply Kd.Q_alloc|apply Kd.Q_drewN|apply Kd.Q_drew)); exact (Kd.Q_mono (Kd.Q_mono (Kd.Q_far (p := ⟨gb443,4,none⟩) (Kd.Q_far (p := ⟨gb443,3,none⟩) (Kd.Q_far (p := ⟨gb443,2,none⟩) (Kd.Q_far (p := ⟨gb443,1,none⟩) (Kd.Q_far (p := ⟨gb443,0,none⟩) (Kd.Q_far (p := ⟨gb473,4,none⟩) (Kd.Q_far (p := ⟨gb473,3,none⟩) (Kd.Q_far (p := ⟨gb473,2,none⟩) (Kd.Q_far (p := ⟨gb473,1,none⟩) (Kd.Q_far (p := ⟨gb473,0,none⟩) (Kd.Q_types (Kd.Q_types HO_444011.out BK473.out (by decide)) BK443.out (by decide)) (fun _ hk => hk.1.2) (.int .i64 t461)) (fun _ hk => hk.1.2) (.int .i64 t462)) (fun _ hk => hk.1.2) (.slice Ao37 t463.length co37)) (fun _ hk => hk.1.2) (.int .i64 t466)) (fun _ hk => hk.1.2) (.slice Ao38 t467.length co38)) (fun _ h=>h.2) (.int .i64 t461)) (fun _ h=>h.2) (.int .i64 t462)) (fun _ h=>h.2) (.slice Ao37 t463.length co37)) (fun _ h=>h.2) (.int .i64 t466)) (fun _ h=>h.2) (.slice Ao38 t467.length co38)) (fun _ h_ => h_.1)) (fun _ h_ => h_.1)))) k_ hk,Kd.fresh' (Kd.R_lt (rrAT (Kd.R_mono (Kd.R_mono (Kd.R_far (p := ⟨gb443,4,none⟩) (Kd.R_far (p := ⟨gb443,3,none⟩) (Kd.R_far (p := ⟨gb443,2,none⟩) (Kd.R_far (p := ⟨gb443,1,none⟩) (Kd.R_far (p := ⟨gb443,0,none⟩) (Kd.R_far (p := ⟨gb473,4,none⟩) (Kd.R_far (p := ⟨gb473,3,none⟩) (Kd.R_far (p := ⟨gb473,2,none⟩) (Kd.R_far (p := ⟨gb473,1,none⟩) (Kd.R_far (p := ⟨gb473,0,none⟩) (Kd.R_types (Kd.R_types HO472.out BK473.out (by decide)) BK443.out (by decide)) (fun _ hk => hk.1.2) (.int .i64 t461)) (fun _ hk => hk.1.2) (.int .i64 t462)) (fun _ hk => hk.1.2) (.slice Ao37 t463.length co37)) (fun _ hk => hk.1.2) (.int .i64 t466)) (fun _ hk => hk.1.2) (.slice Ao38 t467.length co38)) (fun _ h=>h.2) (.int .i64 t461)) (fun _ h=>h.2) (.int .i64 t462)) (fun _ h=>h.2) (.slice Ao37 t463.length co37)) (fun _ h=>h.2) (.int .i64 t466)) (fun _ h=>h.2) (.slice Ao38 t467.length co38)) (fun _ h_ => h_.1)) (fun _ h_ => h_.1)))) k_ hk⟩)); (case aO => exact (by (with_reducible repeat (first|apply Kd.Q_alloc|apply Kd.Q_drewN|apply Kd.Q_drew)); exact Kd.Q_mono (Kd.Q_far (p := ⟨gb443,4,none⟩) (Kd.Q_far (p := ⟨gb443,3,none⟩) (Kd.Q_far (p := ⟨gb443,2,none⟩) (Kd.Q_far (p := ⟨gb443,1,none⟩) (Kd.Q_far (p := ⟨gb443,0,none⟩) (Kd.Q_far (p := ⟨gb473,4,none⟩) (Kd.Q_far (p := ⟨gb473,3,none⟩) (Kd.Q_far (p := ⟨gb473,2,none⟩) (Kd.Q_far (p := ⟨gb473,1,none⟩) (Kd.Q_far (p := ⟨gb473,0,none⟩) (Kd.Q_types (Kd.Q_types HO_444010.out BK473.out (by decide)) BK443.out (by decide)) (fun _ hk => hk.1.2) (.int .i64 t461)) (fun _ hk => hk.1.2) (.int .i64 t462)) (fun _ hk => hk.1.2) (.slice Ao37 t463.length co37)) (fun _ hk => hk.1.2) (.int .i64 t466)) (fun _ hk => hk.1.2) (.slice Ao38 t467.length co38)) (fun _ h=>h.2) (.int .i64 t461)) (fun _ h=>h.2) (.int .i64 t462)) (fun _ h=>h.2) (.slice Ao37 t463.length co37)) (fun _ h=>h.2) (.int .i64 t466)) (fun _ h=>h.2) (.slice Ao38 t467.length co38)) (fun _ hk => ⟨hk.1.1.1,hk.1.1.2⟩))); (case aS => exact (below_size (bT HB))); (case aL => have := LMc29.out; omega); intro v475 w40 ho hb hg hat; rw [← Ny474.out] at ho; have n0_ := Aside0.mk (Kd.Q_over' (by (with_reducible repeat (first|apply Kd.Q_alloc|apply Kd.Q_drewN|apply Kd.Q_drew)); exact (Kd.Q_mono (Kd.Q_mono (Kd.Q_far (p := ⟨gb443,4,none⟩) (Kd.Q_far (p := ⟨gb443,3,none⟩) (Kd.Q_far (p := ⟨gb443,2,none⟩) (Kd.Q_far (p := ⟨gb443,1,none⟩) (Kd.Q_far (p := ⟨gb443,0,none⟩) (Kd.Q_far (p := ⟨gb473,4,none⟩) (Kd.Q_far (p := ⟨gb473,3,none⟩) (Kd.Q_far (p := ⟨gb473,2,none⟩) (Kd.Q_far (p := ⟨gb473,1,none⟩) (Kd.Q_far (p := ⟨gb473,0,none⟩) (Kd.Q_types (Kd.Q_types HO_444002.out BK473.out (by decide)) BK443.out (by decide)) (fun _ hk => hk.1.2) (.int .i64 t461)) (fun _ hk => hk.1.2) (.int .i64 t462)) (fun _ hk => hk.1.2) (.slice Ao37 t463.length co37)) (fun _ hk => hk.1.2) (.int .i64 t466)) (fun _ hk => hk.1.2) (.slice Ao38 t467.length co38)) (fun _ h=>h.2) (.int .i64 t461)) (fun _ h=>h.2) (.int .i64 t462)) (fun _ h=>h.2) (.slice Ao37 t463.length co37)) (fun _ h=>h.2) (.int .i64 t466)) (fun _ h=>h.2) (.slice Ao38 t467.length co38)) (fun _ h_ => h_.1)) (fun _ h_ => h_.1))) (Kd.Q_typed (by (with_reducible repeat (first|apply Kd.Q_alloc|apply Kd.Q_drewN|apply Kd.Q_drew)); exact (Kd.Q_mono (Kd.Q_mono (Kd.Q_far (p := ⟨gb443,4,none⟩) (Kd.Q_far (p := ⟨gb443,3,none⟩) (Kd.Q_far (p := ⟨gb443,2,none⟩) (Kd.Q_far (p := ⟨gb443,1,none⟩) (Kd.Q_far (p := ⟨gb443,0,none⟩) (Kd.Q_far (p := ⟨gb473,4,none⟩) (Kd.Q_far (p := ⟨gb473,3,none⟩) (Kd.Q_far (p := ⟨gb473,2,none⟩) (Kd.Q_far (p := ⟨gb473,1,none⟩) (Kd.Q_far (p := ⟨gb473,0,none⟩) (Kd.Q_types (Kd.Q_types HO_444010.out BK473.out (by decide)) BK443.out (by decide)) (fun _ hk => hk.1.2) (.int .i64 t461)) (fun _ hk => hk.1.2) (.int .i64 t462)) (fun _ hk => hk.1.2) (.slice Ao37 t463.length co37)) (fun _ hk => hk.1.2) (.int .i64 t466)) (fun _ hk => hk.1.2) (.slice Ao38 t467.length co38)) (fun _ h=>h.2) (.int .i64 t461)) (fun _ h=>h.2) (.int .i64 t462)) (fun _ h=>h.2) (.slice Ao37 t463.length co37)) (fun _ h=>h.2) (.int .i64 t466)) (fun _ h=>h.2) (.slice Ao38 t467.length co38)) (fun _ h_ => h_.1)) (fun _ h_ => h_.1)))) (by decide) hg); have n1_ := Aside0.mk (Kd.R_over' (rrAT (Kd.R_mono (Kd.R_mono (Kd.R_far (p := ⟨gb443,4,none⟩) (Kd.R_far (p := ⟨gb443,3,none⟩) (Kd.R_far (p := ⟨gb443,2,none⟩) (Kd.R_far (p := ⟨gb443,1,none⟩) (Kd.R_far (p := ⟨gb443,0,none⟩) (Kd.R_far (p := ⟨gb473,4,none⟩) (Kd.R_far (p := ⟨gb473,3,none⟩) (Kd.R_far (p := ⟨gb473,2,none⟩) (Kd.R_far (p := ⟨gb473,1,none⟩) (Kd.R_far (p := ⟨gb473,0,none⟩) (Kd.R_types (Kd.R_types HO_444004.out BK473.out (by decide)) BK443.out (by decide)) (fun _ hk => hk.1.2) (.int .i64 t461)) (fun _ hk => hk.1.2) (.int .i64 t462)) (fun _ hk => hk.1.2) (.slice Ao37 t463.length co37)) (fun _ hk => hk.1.2) (.int .i64 t466)) (fun _ hk => hk.1.2) (.slice Ao38 t467.length co38)) (fun _ h=>h.2) (.int .i64 t461)) (fun _ h=>h.2) (.int .i64 t462)) (fun _ h=>h.2) (.slice Ao37 t463.length co37)) (fun _ h=>h.2) (.int .i64 t466)) (fun _ h=>h.2) (.slice Ao38 t467.length co38)) (fun _ h_ => h_.1)) (fun _ h_ => h_.1))) (Kd.Q_typed (by (with_reducible repeat (first|apply Kd.Q_alloc|apply Kd.Q_drewN|apply Kd.Q_drew)); exact (Kd.Q_mono (Kd.Q_mono (Kd.Q_far (p := ⟨gb443,4,none⟩) (Kd.Q_far (p := ⟨gb443,3,none⟩) (Kd.Q_far (p := ⟨gb443,2,none⟩) (Kd.Q_far (p := ⟨gb443,1,none⟩) (Kd.Q_far (p := ⟨gb443,0,none⟩) (Kd.Q_far (p := ⟨gb473,4,none⟩) (Kd.Q_far (p := ⟨gb473,3,none⟩) (Kd.Q_far (p := ⟨gb473,2,none⟩) (Kd.Q_far (p := ⟨gb473,1,none⟩) (Kd.Q_far (p := ⟨gb473,0,none⟩) (Kd.Q_types (Kd.Q_types HO_444010.out BK473.out (by decide)) BK443.out (by decide)) (fun _ hk => hk.1.2) (.int .i64 t461)) (fun _ hk => hk.1.2) (.int .i64 t462)) (fun _ hk => hk.1.2) (.slice Ao37 t463.length co37)) (fun _ hk => hk.1.2) (.int .i64 t466)) (fun _ hk => hk.1.2) (.slice Ao38 t467.length co38)) (fun _ h=>h.2) (.int .i64 t461)) (fun _ h=>h.2) (.int .i64 t462)) (fun _ h=>h.2) (.slice Ao37 t463.length co37)) (fun _ h=>h.2) (.int .i64 t466)) (fun _ h=>h.2) (.slice Ao38 t467.length co38)) (fun _ h_ => h_.1)) (fun _ h_ => h_.1)))) (by decide) hg); have n2_ := Aside0.mk (Kd.Q_over' (by (with_reducible repeat (first|apply Kd.Q_alloc|apply Kd.Q_drewN|apply Kd.Q_drew)); exact (Kd.Q_mono (Kd.Q_mono (Kd.Q_far (p := ⟨gb443,4,none⟩) (Kd.Q_far (p := ⟨gb443,3,none⟩) (Kd.Q_far (p := ⟨gb443,2,none⟩) (Kd.Q_far (p := ⟨gb443,1,none⟩) (Kd.Q_far (p := ⟨gb443,0,none⟩) (Kd.Q_far (p := ⟨gb473,4,none⟩) (Kd.Q_far (p := ⟨gb473,3,none⟩) (Kd.Q_far (p := ⟨gb473,2,none⟩) (Kd.Q_far (p := ⟨gb473,1,none⟩) (Kd.Q_far (p := ⟨gb473,0,none⟩) (Kd.Q_types (Kd.Q_types HO_444007.out BK473.out (by decide)) BK443.out (by decide)) (fun _ hk => hk.1.2) (.int .i64 t461)) (fun _ hk => hk.1.2) (.int .i64 t462)) (fun _ hk => hk.1.2) (.slice Ao37 t463.length co37)) (fun _ hk => hk.1.2) (.int .i64 t466)) (fun _ hk => hk.1.2) (.slice Ao38 t467.length co38)) (fun _ h=>h.2) (.int .i64 t461)) (fun _ h=>h.2) (.int .i64 t462)) (fun _ h=>h.2) (.slice Ao37 t463.length co37)) (fun _ h=>h.2) (.int .i64 t466)) (fun _ h=>h.2) (.slice Ao38 t467.length co38)) (fun _ h_ => h_.1)) (fun _ h_ => h_.1))) (Kd.Q_typed (by (with_reducible repeat (first|apply Kd.Q_alloc|apply Kd.Q_drewN|apply Kd.Q_drew)); exact (Kd.Q_mono (Kd.Q_mono (Kd.Q_far (p := ⟨gb443,4,none⟩) (Kd.Q_far (p := ⟨gb443,3,none⟩) (Kd.Q_far (p := ⟨gb443,2,none⟩) (Kd.Q_far (p := ⟨gb443,1,none⟩) (Kd.Q_far (p := ⟨gb443,0,none⟩) (Kd.Q_far (p := ⟨gb473,4,none⟩) (Kd.Q_far (p := ⟨gb473,3,none⟩) (Kd.Q_far (p := ⟨gb473,2,none⟩) (Kd.Q_far (p := ⟨gb473,1,none⟩) (Kd.Q_far (p := ⟨gb473,0,none⟩) (Kd.Q_types (Kd.Q_types HO_444010.out BK473.out (by decide)) BK443.out (by decide)) (fun _ hk => hk.1.2) (.int .i64 t461)) (fun _ hk => hk.1.2) (.int .i64 t462)) (fun _ hk => hk.1.2) (.slice Ao37 t463.length co37)) (fun _ hk => hk.1.2) (.int .i64 t466)) (fun _ hk => hk.1.2) (.slice Ao38 t467.length co38)) (fun _ h=>h.2) (.int .i64 t461)) (fun _ h=>h.2) (.int .i64 t462)) (fun _ h=>h.2) (.slice Ao37 t463.length co37)) (fun _ h=>h.2) (.int .i64 t466)) (fun _ h=>h.2) (.slice Ao38 t467.length co38)) (fun _ h_ => h_.1)) (fun _ h_ => h_.1)))) (by decide) hg); have n3_ := Aside0.mk (Kd.R_over' (rrAT (Kd.R_mono (Kd.R_mono (Kd.R_far (p := ⟨gb443,4,none⟩) (Kd.R_far (p := ⟨gb443,3,none⟩) (Kd.R_far (p := ⟨gb443,2,none⟩) (Kd.R_far (p := ⟨gb443,1,none⟩) (Kd.R_far (p := ⟨gb443,0,none⟩) (Kd.R_far (p := ⟨gb473,4,none⟩) (Kd.R_far (p := ⟨gb473,3,none⟩) (Kd.R_far (p := ⟨gb473,2,none⟩) (Kd.R_far (p := ⟨gb473,1,none⟩) (Kd.R_far (p := ⟨gb473,0,none⟩) (Kd.R_types (Kd.R_types HO_444009.out BK473.out (by decide)) BK443.out (by decide)) (fun _ hk => hk.1.2) (.int .i64 t461)) (fun _ hk => hk.1.2) (.int .i64 t462)) (fun _ hk => hk.1.2) (.slice Ao37 t463.length co37)) (fun _ hk => hk.1.2) (.int .i64 t466)) (fun _ hk => hk.1.2) (.slice Ao38 t467.length co38)) (fun _ h=>h.2) (.int .i64 t461)) (fun _ h=>h.2) (.int .i64 t462)) (fun _ h=>h.2) (.slice Ao37 t463.length co37)) (fun _ h=>h.2) (.int .i64 t466)) (fun _ h=>h.2) (.slice Ao38 t467.length co38)) (fun _ h_ => h_.1)) (fun _ h_ => h_.1))) (Kd.Q_typed (by (with_reducible repeat (first|apply Kd.Q_alloc|apply Kd.Q_drewN|apply Kd.Q_drew)); exact (Kd.Q_mono (Kd.Q_mono (Kd.Q_far (p := ⟨gb443,4,none⟩) (Kd.Q_far (p := ⟨gb443,3,none⟩) (Kd.Q_far (p := ⟨gb443,2,none⟩) (Kd.Q_far (p := ⟨gb443,1,none⟩) (Kd.Q_far (p := ⟨gb443,0,none⟩) (Kd.Q_far (p := ⟨gb473,4,none⟩) (Kd.Q_far (p := ⟨gb473,3,none⟩) (Kd.Q_far (p := ⟨gb473,2,none⟩) (Kd.Q_far (p := ⟨gb473,1,none⟩) (Kd.Q_far (p := ⟨gb473,0,none⟩) (Kd.Q_types (Kd.Q_types HO_444010.out BK473.out (by decide)) BK443.out (by decide)) (fun _ hk => hk.1.2) (.int .i64 t461)) (fun _ hk => hk.1.2) (.int .i64 t462)) (fun _ hk => hk.1.2) (.slice Ao37 t463.length co37)) (fun _ hk => hk.1.2) (.int .i64 t466)) (fun _ hk => hk.1.2) (.slice Ao38 t467.length co38)) (fun _ h=>h.2) (.int .i64 t461)) (fun _ h=>h.2) (.int .i64 t462)) (fun _ h=>h.2) (.slice Ao37 t463.length co37)) (fun _ h=>h.2) (.int .i64 t466)) (fun _ h=>h.2) (.slice Ao38 t467.length co38)) (fun _ h_ => h_.1)) (fun _ h_ => h_.1)))) (by decide) hg); have n4_ := Aside0.mk (Kd.Q_after (ok := (fun k_ => some k_ ≠ (.slice Ao41 t470.length co41 : Value).ownBlock)) (by (with_reducible repeat (first|apply Kd.Q_alloc|apply Kd.Q_drewN|apply Kd.Q_drew)); exact Kd.Q_mono (Kd.Q_far (p := ⟨gb443,4,none⟩) (Kd.Q_far (p := ⟨gb443,3,none⟩) (Kd.Q_far (p := ⟨gb443,2,none⟩) (Kd.Q_far (p := ⟨gb443,1,none⟩) (Kd.Q_far (p := ⟨gb443,0,none⟩) (Kd.Q_far (p := ⟨gb473,4,none⟩) (Kd.Q_far (p := ⟨gb473,3,none⟩) (Kd.Q_far (p := ⟨gb473,2,none⟩) (Kd.Q_far (p := ⟨gb473,1,none⟩) (Kd.Q_far (p := ⟨gb473,0,none⟩) (Kd.Q_types (Kd.Q_types HO_444011.out BK473.out (by decide)) BK443.out (by decide)) (fun _ hk => hk.1.2) (.int .i64 t461)) (fun _ hk => hk.1.2) (.int .i64 t462)) (fun _ hk => hk.1.2) (.slice Ao37 t463.length co37)) (fun _ hk => hk.1.2) (.int .i64 t466)) (fun _ hk => hk.1.2) (.slice Ao38 t467.length co38)) (fun _ h=>h.2) (.int .i64 t461)) (fun _ h=>h.2) (.int .i64 t462)) (fun _ h=>h.2) (.slice Ao37 t463.length co37)) (fun _ h=>h.2) (.int .i64 t466)) (fun _ h=>h.2) (.slice Ao38 t467.length co38)) (fun _ hk => ⟨hk.1.1.2,hk.1.1.1⟩)) hg hat); have n5_ := Aside0.mk (blk_grown (g := gb443) (o := .cells #[.int .i64 t461,.int .i64 t462,.slice Ao37 t463.length co37,.int .i64 t466,.slice Ao38 t467.length co38,.int .i64 x444005_4,.int .i64 x444006_4,u444007,.int .i64 x444008_4,u444009,u444010,u444011] 78 (0,0)) (by (with_reducible repeat (first|refine blk_drewN ?_ _|refine blk_drew ?_|refine blk_alloc ?_ _)); refine blk_put (cs := #[.int .i64 t461,.int .i64 t462,.slice Ao37 t463.length co37,.int .i64 t466,.slice Ao32 x444004_4.length co32,.int .i64 x444005_4,.int .i64 x444006_4,u444007,.int .i64 x444008_4,u444009,u444010,u444011]) ?_ 4 _ rfl; (with_reducible repeat (first|refine blk_drewN ?_ _|refine blk_drew ?_|refine blk_alloc ?_ _)); refine blk_put (cs := #[.int .i64 t461,.int .i64 t462,.slice Ao37 t463.length co37,.int .i64 x444003_4,.slice Ao32 x444004_4.length co32,.int .i64 x444005_4,.int .i64 x444006_4,u444007,.int .i64 x444008_4,u444009,u444010,u444011]) ?_ 3 _ rfl; (with_reducible repeat (first|refine blk_drewN ?_ _|refine blk_drew ?_|refine blk_alloc ?_ _)); refine blk_put (cs := #[.int .i64 t461,.int .i64 t462,.slice Ao31 x444002_4.length co31,.int .i64 x444003_4,.slice Ao32 x444004_4.length co32,.int .i64 x444005_4,.int .i64 x444006_4,u444007,.int .i64 x444008_4,u444009,u444010,u444011]) ?_ 2 _ rfl; (with_reducible repeat (first|refine blk_drewN ?_ _|refine blk_drew ?_|refine blk_alloc ?_ _)); refine blk_put (cs := #[.int .i64 t461,.int .i64 x444001_4,.slice Ao31 x444002_4.length co31,.int .i64 x444003_4,.slice Ao32 x444004_4.length co32,.int .i64 x444005_4,.int .i64 x444006_4,u444007,.int .i64 x444008_4,u444009,u444010,u444011]) ?_ 1 _ rfl; (with_reducible repeat (first|refine blk_drewN ?_ _|refine blk_drew ?_|refine blk_alloc ?_ _)); refine blk_put (cs := #[.int .i64 x444000_4,.int .i64 x444001_4,.slice Ao31 x444002_4.length co31,.int .i64 x444003_4,.slice Ao32 x444004_4.length co32,.int .i64 x444005_4,.int .i64 x444006_4,u444007,.int .i64 x444008_4,u444009,u444010,u444011]) ?_ 0 _ rfl; (with_reducible repeat (first|refine blk_drewN ?_ _|refine blk_drew ?_|refine blk_alloc ?_ _)); refine blk_far ?_ NB443_473.out _; (with_reducible repeat (first|refine blk_drewN ?_ _|refine blk_drew ?_|refine blk_alloc ?_ _)); refine blk_far ?_ NB443_473.out _; (with_reducible repeat (first|refine blk_drewN ?_ _|refine blk_drew ?_|refine blk_alloc ?_ _)); refine blk_far ?_ NB443_473.out _; (with_reducible repeat (first|refine blk_drewN ?_ _|refine blk_drew ?_|refine blk_alloc ?_ _)); refine blk_far ?_ NB443_473.out _; (with_reducible repeat (first|refine blk_drewN ?_ _|refine blk_drew ?_|refine blk_alloc ?_ _)); refine blk_far ?_ NB443_473.out _; (with_reducible repeat (first|refine blk_drewN ?_ _|refine blk_drew ?_|refine blk_alloc ?_ _)); exact BK443.out) hg (Kd.Q_ne HO_444010.out BK443.out (by decide))); have n6_ := Aside0.mk (Kd.R_over' (rrAT (Kd.R_mono (Kd.R_mono (Kd.R_far (p := ⟨gb443,4,none⟩) (Kd.R_far (p := ⟨gb443,3,none⟩) (Kd.R_far (p := ⟨gb443,2,none⟩) (Kd.R_far (p := ⟨gb443,1,none⟩) (Kd.R_far (p := ⟨gb443,0,none⟩) (Kd.R_far (p := ⟨gb473,4,none⟩) (Kd.R_far (p := ⟨gb473,3,none⟩) (Kd.R_far (p := ⟨gb473,2,none⟩) (Kd.R_far (p := ⟨gb473,1,none⟩) (Kd.R_far (p := ⟨gb473,0,none⟩) (Kd.R_types (Kd.R_types HO465.out BK473.out (by decide)) BK443.out (by decide)) (fun _ hk => hk.1.2) (.int .i64 t461)) (fun _ hk => hk.1.2) (.int .i64 t462)) (fun _ hk => hk.1.2) (.slice Ao37 t463.length co37)) (fun _ hk => hk.1.2) (.int .i64 t466)) (fun _ hk => hk.1.2) (.slice Ao38 t467.length co38)) (fun _ h=>h.2) (.int .i64 t461)) (fun _ h=>h.2) (.int .i64 t462)) (fun _ h=>h.2) (.slice Ao37 t463.length co37)) (fun _ h=>h.2) (.int .i64 t466)) (fun _ h=>h.2) (.slice Ao38 t467.length co38)) (fun _ h_ => h_.1)) (fun _ h_ => h_.1))) (Kd.Q_typed (by (with_reducible repeat (first|apply Kd.Q_alloc|apply Kd.Q_drewN|apply Kd.Q_drew)); exact (Kd.Q_mono (Kd.Q_mono (Kd.Q_far (p := ⟨gb443,4,none⟩) (Kd.Q_far (p := ⟨gb443,3,none⟩) (Kd.Q_far (p := ⟨gb443,2,none⟩) (Kd.Q_far (p := ⟨gb443,1,none⟩) (Kd.Q_far (p := ⟨gb443,0,none⟩) (Kd.Q_far (p := ⟨gb473,4,none⟩) (Kd.Q_far (p := ⟨gb473,3,none⟩) (Kd.Q_far (p := ⟨gb473,2,none⟩) (Kd.Q_far (p := ⟨gb473,1,none⟩) (Kd.Q_far (p := ⟨gb473,0,none⟩) (Kd.Q_types (Kd.Q_types HO_444010.out BK473.out (by decide)) BK443.out (by decide)) (fun _ hk => hk.1.2) (.int .i64 t461)) (fun _ hk => hk.1.2) (.int .i64 t462)) (fun _ hk => hk.1.2) (.slice Ao37 t463.length co37)) (fun _ hk => hk.1.2) (.int .i64 t466)) (fun _ hk => hk.1.2) (.slice Ao38 t467.length co38)) (fun _ h=>h.2) (.int .i64 t461)) (fun _ h=>h.2) (.int .i64 t462)) (fun _ h=>h.2) (.slice Ao37 t463.length co37)) (fun _ h=>h.2) (.int .i64 t466)) (fun _ h=>h.2) (.slice Ao38 t467.length co38)) (fun _ h_ => h_.1)) (fun _ h_ => h_.1)))) (by decide) hg); have n7_ := Aside0.mk (Kd.R_over' (rrAT (Kd.R_mono (Kd.R_mono (Kd.R_far (p := ⟨gb443,4,none⟩) (Kd.R_far (p := ⟨gb443,3,none⟩) (Kd.R_far (p := ⟨gb443,2,none⟩) (Kd.R_far (p := ⟨gb443,1,none⟩) (Kd.R_far (p := ⟨gb443,0,none⟩) (Kd.R_far (p := ⟨gb473,4,none⟩) (Kd.R_far (p := ⟨gb473,3,none⟩) (Kd.R_far (p := ⟨gb473,2,none⟩) (Kd.R_far (p := ⟨gb473,1,none⟩) (Kd.R_far (p := ⟨gb473,0,none⟩) (Kd.R_types (Kd.R_types HO469.out BK473.out (by decide)) BK443.out (by decide)) (fun _ hk => hk.1.2) (.int .i64 t461)) (fun _ hk => hk.1.2) (.int .i64 t462)) (fun _ hk => hk.1.2) (.slice Ao37 t463.length co37)) (fun _ hk => hk.1.2) (.int .i64 t466)) (fun _ hk => hk.1.2) (.slice Ao38 t467.length co38)) (fun _ h=>h.2) (.int .i64 t461)) (fun _ h=>h.2) (.int .i64 t462)) (fun _ h=>h.2) (.slice Ao37 t463.length co37)) (fun _ h=>h.2) (.int .i64 t466)) (fun _ h=>h.2) (.slice Ao38 t467.length co38)) (fun _ h_ => h_.1)) (fun _ h_ => h_.1))) (Kd.Q_typed (by (with_reducible repeat (first|apply Kd.Q_alloc|apply Kd.Q_drewN|apply Kd.Q_drew)); exact (Kd.Q_mono (Kd.Q_mono (Kd.Q_far (p := ⟨gb443,4,none⟩) (Kd.Q_far (p := ⟨gb443,3,none⟩) (Kd.Q_far (p := ⟨gb443,2,none⟩) (Kd.Q_far (p := ⟨gb443,1,none⟩) (Kd.Q_far (p := ⟨gb443,0,none⟩) (Kd.Q_far (p := ⟨gb473,4,none⟩) (Kd.Q_far (p := ⟨gb473,3,none⟩) (Kd.Q_far (p := ⟨gb473,2,none⟩) (Kd.Q_far (p := ⟨gb473,1,none⟩) (Kd.Q_far (p := ⟨gb473,0,none⟩) (Kd.Q_types (Kd.Q_types HO_444010.out BK473.out (by decide)) BK443.out (by decide)) (fun _ hk => hk.1.2) (.int .i64 t461)) (fun _ hk => hk.1.2) (.int .i64 t462)) (fun _ hk => hk.1.2) (.slice Ao37 t463.length co37)) (fun _ hk => hk.1.2) (.int .i64 t466)) (fun _ hk => hk.1.2) (.slice Ao38 t467.length co38)) (fun _ h=>h.2) (.int .i64 t461)) (fun _ h=>h.2) (.int .i64 t462)) (fun _ h=>h.2) (.slice Ao37 t463.length co37)) (fun _ h=>h.2) (.int .i64 t466)) (fun _ h=>h.2) (.slice Ao38 t467.length co38)) (fun _ h_ => h_.1)) (fun _ h_ => h_.1)))) (by decide) hg); have n8_ := Aside0.mk (Kd.R_after (ok := (fun k_ => some k_ ≠ (u444011 : Value).ownBlock)) (by (with_reducible repeat (first|apply Kd.R_alloc|apply Kd.R_drewN|apply Kd.R_drew)); exact Kd.R_mono (Kd.R_far (p := ⟨gb443,4,none⟩) (Kd.R_far (p := ⟨gb443,3,none⟩) (Kd.R_far (p := ⟨gb443,2,none⟩) (Kd.R_far (p := ⟨gb443,1,none⟩) (Kd.R_far (p := ⟨gb443,0,none⟩) (Kd.R_far (p := ⟨gb473,4,none⟩) (Kd.R_far (p := ⟨gb473,3,none⟩) (Kd.R_far (p := ⟨gb473,2,none⟩) (Kd.R_far (p := ⟨gb473,1,none⟩) (Kd.R_far (p := ⟨gb473,0,none⟩) (Kd.R_types (Kd.R_types HO472.out BK473.out (by decide)) BK443.out (by decide)) (fun _ hk => hk.1.2) (.int .i64 t461)) (fun _ hk => hk.1.2) (.int .i64 t462)) (fun _ hk => hk.1.2) (.slice Ao37 t463.length co37)) (fun _ hk => hk.1.2) (.int .i64 t466)) (fun _ hk => hk.1.2) (.slice Ao38 t467.length co38)) (fun _ h=>h.2) (.int .i64 t461)) (fun _ h=>h.2) (.int .i64 t462)) (fun _ h=>h.2) (.slice Ao37 t463.length co37)) (fun _ h=>h.2) (.int .i64 t466)) (fun _ h=>h.2) (.slice Ao38 t467.length co38)) (fun _ hk => ⟨hk.1.1.2,hk.1.1.1.2⟩)) hg hat); have n9_ := Aside0.mk (blk_grown (g := gb473) (o := .cells #[.int .i64 t461,.int .i64 t462,.slice Ao37 t463.length co37,.int .i64 t466,.slice Ao38 t467.length co38] 26 (0,0)) (by (with_reducible repeat (first|refine blk_drewN ?_ _|refine blk_drew ?_|refine blk_alloc ?_ _)); refine blk_far ?_ NB473_443.out _; (with_reducible repeat (first|refine blk_drewN ?_ _|refine blk_drew ?_|refine blk_alloc ?_ _)); refine blk_far ?_ NB473_443.out _; (with_reducible repeat (first|refine blk_drewN ?_ _|refine blk_drew ?_|refine blk_alloc ?_ _)); refine blk_far ?_ NB473_443.out _; (with_reducible repeat (first|refine blk_drewN ?_ _|refine blk_drew ?_|refine blk_alloc ?_ _)); refine blk_far ?_ NB473_443.out _; (with_reducible repeat (first|refine blk_drewN ?_ _|refine blk_drew ?_|refine blk_alloc ?_ _)); refine blk_far ?_ NB473_443.out _; (with_reducible repeat (first|refine blk_drewN ?_ _|refine blk_drew ?_|refine blk_alloc ?_ _)); refine blk_put (cs := #[.int .i64 t461,.int .i64 t462,.slice Ao37 t463.length co37,.int .i64 t466,.slice none 0 0]) ?_ 4 _ rfl; (with_reducible repeat (first|refine blk_drewN ?_ _|refine blk_drew ?_|refine blk_alloc ?_ _)); refine blk_put (cs := #[.int .i64 t461,.int .i64 t462,.slice Ao37 t463.length co37,.int .i64 0,.slice none 0 0]) ?_ 3 _ rfl; (with_reducible repeat (first|refine blk_drewN ?_ _|refine blk_drew ?_|refine blk_alloc ?_ _)); refine blk_put (cs := #[.int .i64 t461,.int .i64 t462,.slice none 0 0,.int .i64 0,.slice none 0 0]) ?_ 2 _ rfl; (with_reducible repeat (first|refine blk_drewN ?_ _|refine blk_drew ?_|refine blk_alloc ?_ _)); refine blk_put (cs := #[.int .i64 t461,.int .i64 0,.slice none 0 0,.int .i64 0,.slice none 0 0]) ?_ 1 _ rfl; (with_reducible repeat (first|refine blk_drewN ?_ _|refine blk_drew ?_|refine blk_alloc ?_ _)); refine blk_put (cs := #[.int .i64 0,.int .i64 0,.slice none 0 0,.int .i64 0,.slice none 0 0]) ?_ 0 _ rfl; (with_reducible repeat (first|refine blk_drewN ?_ _|refine blk_drew ?_|refine blk_alloc ?_ _)); exact BK473.out) hg (Kd.Q_ne HO_444010.out BK473.out (by decide))); have n10_ := Aside0.mk (hb); have n11_ := Aside0.mk (ho); clear HO_444002 HO_444004 HO_444007 HO_444009 HO_444011 BK443 HO465 HO469 HO472 BK473 HB HO_444010; have HO_444002 := n0_; have HO_444004 := n1_; have HO_444007 := n2_; have HO_444009 := n3_; have HO_444011 := n4_; have BK443 := n5_; have HO465 := n6_; have HO469 := n7_; have HO472 := n8_; have BK473 := n9_; have HB := n10_; have HO476 := n11_; clear n0_ n1_ n2_ n3_ n4_ n5_ n6_ n7_ n8_ n9_ n10_ n11_ ho hb hg hat; obtain ⟨Ao42,co42,eo42,_⟩ := Kd.Q_slice HO476.out; subst eo42; obtain ⟨_,_,_,_,_,_,_,_,_,_,_,_,_,_,_,_,_,_,_,_,_,_,_,_⟩ := cz12 BK443.out))
    have H := H'.out
    clear H'
    simp only [Option.some.injEq,Prod.mk.injEq] at H
    obtain ⟨rfl,rfl,rfl,rfl,rfl,rfl,rfl,rfl,rfl,rfl,rfl,rfl⟩ := H
    (try simp only [Exit.inBlock, Exit.then])
    (first | (refine bodyPost_ret (results_none rfl _ _ _) rfl ?_) | (refine bodyPost_end (results_none rfl _ _ _) rfl ?_))
    exact ⟨(.slice Ao37 t463.length co37),(.slice Ao38 t467.length co38),(u444007),(u444009),(.slice Ao42 y474.length co42),(u444011),rfl,⟨Kd.Q_of_R (by (with_reducible repeat (first|apply Kd.R_alloc|apply Kd.R_drewN|apply Kd.R_drew)); exact Kd.R_mono (Kd.R_far (p := ⟨gb443,10,none⟩) (Kd.R_types HO465.out BK443.out (by decide)) (fun _ h=>h.2) (.slice Ao42 y474.length co42)) (fun _ hk => ⟨hk.1.1.1.1.1,⟨hk.1.1.2,hk.1.2⟩⟩))⟩,⟨by (with_reducible repeat (first|apply Kd.R_alloc|apply Kd.R_drewN|apply Kd.R_drew)); exact Kd.R_mono (Kd.R_far (p := ⟨gb443,10,none⟩) (Kd.R_types HO469.out BK443.out (by decide)) (fun _ h=>h.2) (.slice Ao42 y474.length co42)) (fun _ hk => ⟨hk.1.1.1.1.1,⟨hk.1.1.2,hk.1.2⟩⟩)⟩,⟨by (with_reducible repeat (first|apply Kd.Q_alloc|apply Kd.Q_drewN|apply Kd.Q_drew)); exact Kd.Q_mono (Kd.Q_far (p := ⟨gb443,10,none⟩) (Kd.Q_types HO_444007.out BK443.out (by decide)) (fun _ h=>h.2) (.slice Ao42 y474.length co42)) (fun _ hk => ⟨hk.1.1.2,⟨hk.1.2,hk.1.1.1.2.2⟩⟩)⟩,⟨by (with_reducible repeat (first|apply Kd.R_alloc|apply Kd.R_drewN|apply Kd.R_drew)); exact Kd.R_mono (Kd.R_far (p := ⟨gb443,10,none⟩) (Kd.R_types HO_444009.out BK443.out (by decide)) (fun _ h=>h.2) (.slice Ao42 y474.length co42)) (fun _ hk => ⟨hk.1.1.2,⟨hk.1.2,hk.1.1.1.2.2⟩⟩)⟩,⟨by (with_reducible repeat (first|apply Kd.Q_alloc|apply Kd.Q_drewN|apply Kd.Q_drew)); exact Kd.Q_mono (Kd.Q_far (p := ⟨gb443,10,none⟩) (Kd.Q_types HO476.out BK443.out (by decide)) (fun _ h=>h.2) (.slice Ao42 y474.length co42)) (fun _ hk => hk.1.1)⟩,⟨by (with_reducible repeat (first|apply Kd.Q_alloc|apply Kd.Q_drewN|apply Kd.Q_drew)); exact Kd.Q_mono (Kd.Q_far (p := ⟨gb443,10,none⟩) (Kd.Q_types HO_444011.out BK443.out (by decide)) (fun _ h=>h.2) (.slice Ao42 y474.length co42)) (fun _ hk => hk.1.2)⟩,⟨by (with_reducible repeat (first|refine blk_drewN ?_ _|refine blk_drew ?_|refine blk_alloc ?_ _)); refine blk_put (cs := #[.int .i64 t461,.int .i64 t462,.slice Ao37 t463.length co37,.int .i64 t466,.slice Ao38 t467.length co38,.int .i64 x444005_4,.int .i64 x444006_4,u444007,.int .i64 x444008_4,u444009,u444010,u444011]) ?_ 10 _ rfl; (with_reducible repeat (first|refine blk_drewN ?_ _|refine blk_drew ?_|refine blk_alloc ?_ _)); exact BK443.out⟩,⟨bT HB⟩⟩
   ·
    rw [if_neg c29] at H
    exact absurd H (by simp)
  ·
   rw [if_neg c27] at H
   have c27b0 : ((Int.tmod n 4) == 0) = false := beq_eq_false_iff_ne.mpr c27
   have c27b1 : ((Int.tmod n 4) != 0) = true := bne_iff_ne.mpr c27
   by_cases c44 : (Int.tmod n 4) = 1
   ·
    rw [if_pos c44] at H
    have c44b0 : ((Int.tmod n 4) == 1) = true := beq_iff_eq.mpr c44
    have c44b1 : ((Int.tmod n 4) != 1) = false := bne_eq_false_iff_eq.mpr c44
    clear c44
    replace H := Option.bind_eq_some_iff.mp H
    obtain ⟨t477,A450,H⟩ := H
    replace H : (if x444010_4.length + t477.length < 4398046511104 then (some (x444000_4,x444001_4,x444002_4,x444003_4,x444004_4,x444005_4,x444006_4,x444007_4,x444008_4,x444009_4,(x444010_4 ++ t477),x444011_4)) else (none)) = some (r0,r1,r2,r3,r4,r5,r6,r7,r8,r9,r10,r11) := H
    have A45 := Aside0.mk A450
    clear A450
    by_cases c46 : x444010_4.length + t477.length < 4398046511104
    ·
     rw [if_pos c46] at H
     have LMc46 := Aside0.mk c46
     clear c46
     obtain ⟨y480,hy480⟩ : ∃ y_ : List (S36),y_ = (x444010_4 ++ t477) := ⟨_,rfl⟩
     replace H : (some (x444000_4,x444001_4,x444002_4,x444003_4,x444004_4,x444005_4,x444006_4,x444007_4,x444008_4,x444009_4,y480,x444011_4)) = some (r0,r1,r2,r3,r4,r5,r6,r7,r8,r9,r10,r11) := by first | (rw [hy480]; with_reducible exact H) | (have H2_ := (Option.bind_some _ _).symm.trans H; rw [hy480]; with_reducible exact H2_) | (have H2_ := (Option.bind_some _ _).symm.trans H; with_reducible exact H2_)|with_reducible exact H | (rw [hy480]; exact H)|exact H
     have Ny480 := Aside0.mk hy480
     clear hy480
     have H' := Aside0.mk H
     clear H
     try go_wp2
     have n0_ := Aside0.mk (Kd.Q_drew HO_444002.out)
     have n1_ := Aside0.mk (Kd.R_drew HO_444004.out)
     have n2_ := Aside0.mk (Kd.Q_drew HO_444007.out)
     have n3_ := Aside0.mk (Kd.R_drew HO_444009.out)
     have n4_ := Aside0.mk (Kd.Q_drew HO_444010.out)
     have n5_ := Aside0.mk (Kd.Q_drew HO_444011.out)
     have n6_ := Aside0.mk (blk_drew BK443.out)
     have n7_ := Aside0.mk (below_drew1 HB.out)
     clear HO_444002 HO_444004 HO_444007 HO_444009 HO_444010 HO_444011 BK443 HB
     have HO_444002 := n0_
     have HO_444004 := n1_
     have HO_444007 := n2_
     have HO_444009 := n3_
     have HO_444010 := n4_
     have HO_444011 := n5_
     have BK443 := n6_
     have HB := n7_
     clear n0_ n1_ n2_ n3_ n4_ n5_ n6_ n7_
     obtain ⟨Ao48,co48,eo48,_⟩ := Kd.Q_slice HO_444002.out
     (first | subst eo48 | (injection eo48 with f1_ f2_ f3_; have f4_ := f1_.symm; have f5_ := f3_.symm; clear f1_ f2_ f3_; subst f4_; subst f5_))
     obtain ⟨Ao49,co49,eo49⟩ := Kd.R_slice HO_444004.out
     (first | subst eo49 | (injection eo49 with f1_ f2_ f3_; have f4_ := f1_.symm; have f5_ := f3_.symm; clear f1_ f2_ f3_; subst f4_; subst f5_))
     refine start_ (n := 14) (S := fun w' => w'.cell? ⟨gb443,0,none⟩ = some (.int .i64 x444000_4) ∧ w'.cell? ⟨gb443,1,none⟩ = some (.int .i64 x444001_4) ∧ w'.cell? ⟨gb443,2,none⟩ = some (.slice Ao48 x444002_4.length co48) ∧ w'.cell? ⟨gb443,3,none⟩ = some (.int .i64 x444003_4) ∧ w'.cell? ⟨gb443,4,none⟩ = some (.slice Ao49 x444004_4.length co49) ∧ w'.cell? ⟨gb443,5,none⟩ = some (.int .i64 x444005_4) ∧ w'.cell? ⟨gb443,6,none⟩ = some (.int .i64 x444006_4) ∧ w'.cell? ⟨gb443,7,none⟩ = some (u444007) ∧ w'.cell? ⟨gb443,8,none⟩ = some (.int .i64 x444008_4) ∧ w'.cell? ⟨gb443,9,none⟩ = some (u444009) ∧ w'.cell? ⟨gb443,10,none⟩ = some (u444010) ∧ w'.cell? ⟨gb443,11,none⟩ = some (u444011)) (ds := [13]) #[false,false,false,false,false,false,false,false,false,false,false,false,false,false] (by kernel_rfl) rfl rfl ⟨(blk_cell BK443.out 0).trans rfl,(blk_cell BK443.out 1).trans rfl,(blk_cell BK443.out 2).trans rfl,(blk_cell BK443.out 3).trans rfl,(blk_cell BK443.out 4).trans rfl,(blk_cell BK443.out 5).trans rfl,(blk_cell BK443.out 6).trans rfl,(blk_cell BK443.out 7).trans rfl,(blk_cell BK443.out 8).trans rfl,(blk_cell BK443.out 9).trans rfl,(blk_cell BK443.out 10).trans rfl,(blk_cell BK443.out 11).trans rfl⟩ (fun hHeld => ?_); refine with_tabW impl_talk_pick.tab7 impl_talk_pick.bits7 (fun HT_ HW_ => ?_)
     generalize wr.drew = w47 at HO_444002 HO_444004 HO_444007 HO_444009 HO_444010 HO_444011 BK443 HB hHeld ⊢
     refine pure_ (i := 0) (N := some 40) (v := ?_) (a' := ?_) #[true,false,false,false,false,false,false,false,false,false,false,false,false,false] rfl rfl (any_of HT_.out (by kernel_rfl)) (fun _ _ _ h => h) (Or.inl ⟨by rfl,?_⟩) ?_ ?_; rotate_left
     · intro w'; go_simp; with_reducible rfl
     rotate_left
     · simp only [Act.put,List.setIfInBounds_toArray,List.set_cons_zero,List.set_cons_succ,i64_w,i32_w]; rfl
     refine pure_ (i := 1) (N := some 41) (v := ?_) (a' := ?_) #[true,true,false,false,false,false,false,false,false,false,false,false,false,false] rfl rfl (any_of HT_.out (by kernel_rfl)) (fun _ _ _ h => h) (Or.inl ⟨by rfl,?_⟩) ?_ ?_; rotate_left
     · intro w'; go_simp; with_reducible rfl
     rotate_left
     · simp only [Act.put,List.setIfInBounds_toArray,List.set_cons_zero,List.set_cons_succ,i64_w,i32_w]; rfl
     refine pure_ (i := 2) (N := some 42) (v := ?_) (a' := ?_) #[true,true,true,false,false,false,false,false,false,false,false,false,false,false] rfl rfl (any_of HT_.out (by kernel_rfl)) (fun _ _ _ h => h) (Or.inl ⟨by rfl,?_⟩) ?_ ?_; rotate_left
     · intro w'; go_simp; with_reducible rfl
     rotate_left
     · simp only [Act.put,List.setIfInBounds_toArray,List.set_cons_zero,List.set_cons_succ,i64_w,i32_w]; rfl
     refine pure_ (i := 3) (N := some 43) (v := ?_) (a' := ?_) #[true,true,true,true,false,false,false,false,false,false,false,false,false,false] rfl rfl (any_of HT_.out (by kernel_rfl)) (fun _ _ _ h => h) (Or.inl ⟨by rfl,?_⟩) ?_ ?_; rotate_left
     · intro w'; go_simp; with_reducible rfl
     rotate_left
     · simp only [Act.put,List.setIfInBounds_toArray,List.set_cons_zero,List.set_cons_succ,i64_w,i32_w]; rfl
     refine pure_ (i := 5) (N := some 45) (v := ?_) (a' := ?_) #[true,true,true,true,false,true,false,false,false,false,false,false,false,false] rfl rfl (any_of HT_.out (by kernel_rfl)) (fun _ _ _ h => h) (Or.inl ⟨by rfl,?_⟩) ?_ ?_; rotate_left
     · intro w'; go_simp; with_reducible rfl
     rotate_left
     · simp only [Act.put,List.setIfInBounds_toArray,List.set_cons_zero,List.set_cons_succ,i64_w,i32_w]; rfl
     refine pure_ (i := 6) (N := some 46) (v := ?_) (a' := ?_) #[true,true,true,true,false,true,true,false,false,false,false,false,false,false] rfl rfl (any_of HT_.out (by kernel_rfl)) (fun _ _ _ h => h) (Or.inl ⟨by rfl,?_⟩) ?_ ?_; rotate_left
     · intro w'; go_simp; with_reducible rfl
     rotate_left
     · simp only [Act.put,List.setIfInBounds_toArray,List.set_cons_zero,List.set_cons_succ,i64_w,i32_w]; rfl
     refine pure_ (i := 7) (N := some 47) (v := ?_) (a' := ?_) #[true,true,true,true,false,true,true,true,false,false,false,false,false,false] rfl rfl (any_of HT_.out (by kernel_rfl)) (fun _ _ _ h => h) (Or.inl ⟨by rfl,?_⟩) ?_ ?_; rotate_left
     · intro w'; go_simp; with_reducible rfl
     rotate_left
     · simp only [Act.put,List.setIfInBounds_toArray,List.set_cons_zero,List.set_cons_succ,i64_w,i32_w]; rfl
     refine take_ (i := 4) (N := some 44) (v := ?_) (a' := ?_) #[true,true,true,true,true,true,true,true,false,false,false,false,false,false] rfl rfl (take_ofW HT_.out HW_.out (by kernel_rfl)) (fun _ _ _ h => h) (Or.inl ⟨by rfl,?_⟩) hHeld ?_ ?_; rotate_left
     ·
      rintro w' ⟨s0,s1,s2,s3,s4,s5,s6,s7,s8,s9,s10,s11⟩
      go_simp; with_reducible rfl
     rotate_left
     · simp only [Act.put,List.setIfInBounds_toArray,List.set_cons_zero,List.set_cons_succ,i64_w,i32_w]; rfl
     refine take_ (i := 8) (N := some 48) (v := ?_) (a' := ?_) #[true,true,true,true,true,true,true,true,true,false,false,false,false,false] rfl rfl (take_ofW HT_.out HW_.out (by kernel_rfl)) (fun _ _ _ h => h) (Or.inl ⟨by rfl,?_⟩) hHeld ?_ ?_; rotate_left
     ·
      rintro w' ⟨s0,s1,s2,s3,s4,s5,s6,s7,s8,s9,s10,s11⟩
      go_simp; with_reducible rfl
     rotate_left
     · simp only [Act.put,List.setIfInBounds_toArray,List.set_cons_zero,List.set_cons_succ,i64_w,i32_w]; rfl
     refine one_ (i := 9) (N := some 49) #[true,true,true,true,true,true,true,true,true,true,false,false,false,false] rfl rfl (one_of HT_.out (by kernel_rfl)) (by decide) (fun K hK => ?_)
     refine goes_ Try.func27 (by kernel_rfl) rfl #[.agg #[.int .i64 x444000_4,.int .i64 x444001_4,.slice Ao48 x444002_4.length co48,.int .i64 x444003_4,.slice Ao49 x444004_4.length co49]] (by rfl) rfl rfl (by (try simp only [List.map_toArray,List.map_cons,List.map_nil]); first | done|rfl|(simp only [List.length_drop,List.length_take]; rfl)) ?_
     with_reducible refine (impl_SendAgain.calls k4 x444000_4 x444001_4 _ _ x444002_4 x444003_4 _ _ x444004_4 t477 _ ?side1 ?side2 ?side3 ?side4 A45.out).mono ?_
     (case side1 => exact ccT ((Kd.Q_reads' HO_444002.out).2.2))
     (case side2 => exact (Kd.Q_reads' HO_444002.out).2.1)
     (case side3 => exact ccT ((Kd.R_reads' HO_444004.out).2.2))
     (case side4 => exact (Kd.R_reads' HO_444004.out).2.1)
     rintro e w50 ⟨v478,rfl,ho0,hb⟩
     refine ⟨_,rfl,?_⟩
     have n0_ := Aside0.mk (Kd.Q_below (rrQ HO_444002.out) hb)
     have n1_ := Aside0.mk (Kd.R_below (rrAT HO_444004.out) hb)
     have n2_ := Aside0.mk (Kd.Q_below (rrQ HO_444007.out) hb)
     have n3_ := Aside0.mk (Kd.R_below (rrAT HO_444009.out) hb)
     have n4_ := Aside0.mk (Kd.Q_elder' (rrQ HO_444010.out) (Kd.R_base ho0) hb)
     have n5_ := Aside0.mk (Kd.Q_elder' (rrQ HO_444011.out) (Kd.R_base ho0) hb)
     have n6_ := Aside0.mk (Kd.R_lower (Kd.R_new' (Kd.R_new' ho0 (Kd.Q_lt (rrQ HO_444010.out))) (Kd.Q_lt (rrQ HO_444011.out))) (below_size (bT HB)))
     have n7_ := Aside0.mk (blk_below (bkT BK443.out) hb)
     have n8_ := Aside0.mk (below_step (bT HB) hb)
     clear HO_444002 HO_444004 HO_444007 HO_444009 HO_444010 HO_444011 BK443 HB
     have HO_444002 := n0_
     have HO_444004 := n1_
     have HO_444007 := n2_
     have HO_444009 := n3_
     have HO_444010 := n4_
     have HO_444011 := n5_
     have HO479 := n6_
     have BK443 := n7_
     have HB := n8_
     clear n0_ n1_ n2_ n3_ n4_ n5_ n6_ n7_ n8_
     obtain ⟨Ao52,co52,eo52⟩ := Kd.R_slice HO479.out
     (first | subst eo52 | (injection eo52 with f1_ f2_ f3_; have f4_ := f1_.symm; have f5_ := f3_.symm; clear f1_ f2_ f3_; subst f4_; subst f5_))
     refine hK.out _ _ ⟨(blk_cell BK443.out 0).trans rfl,(blk_cell BK443.out 1).trans rfl,(blk_cell BK443.out 2).trans rfl,(blk_cell BK443.out 3).trans rfl,(blk_cell BK443.out 4).trans rfl,(blk_cell BK443.out 5).trans rfl,(blk_cell BK443.out 6).trans rfl,(blk_cell BK443.out 7).trans rfl,(blk_cell BK443.out 8).trans rfl,(blk_cell BK443.out 9).trans rfl,(blk_cell BK443.out 10).trans rfl,(blk_cell BK443.out 11).trans rfl⟩ (fun hHeld => ?_)
     clear hK K
     refine norm_ (a' := ?_) ?_ ?_
     rotate_left
     ·
      show Act.put _ (some 49) _ = _
      simp only [Act.put,List.setIfInBounds_toArray,List.set_cons_zero,List.set_cons_succ,i64_w,i32_w]; rfl
     refine one_ (i := 10) (N := some 50) #[true,true,true,true,true,true,true,true,true,true,true,false,false,false] rfl rfl (one_of HT_.out (by kernel_rfl)) (by decide) (fun K hK => ?_)
     refine Kd.Q_append_rows_step k36 (w0 := w) w.heap.size (by rfl) (.tmp 44) (.tmp 49) 45 36 (.agg #[(.int .i64 0),(.int .i64 0),(.string ⟨#[]⟩)]) 32 rfl Try.underlying45 info36 rfl (by decide) (by omega) u444010 x444010_4 t477 _ _ _ (fun k_ => some k_ ≠ (u444011 : Value).ownBlock ∧ some k_ ≠ (.slice Ao52 t477.length co52 : Value).ownBlock) (fun _ => False) rfl rfl ?aO ?aR (fun _ _ h => h) (fun _ h => h.elim) ?aF ?aB ?aS ?aL ?_
     (case aR => exact ccT ((Kd.R_reads' HO479.out).2.2))
     (case aB => exact (bT HB))
     (case aF => exact (fun k_ hk => ⟨Kd.fresh' (Kd.Q_lt (rrQ HO_444011.out)) k_ hk,Kd.fresh' (Kd.R_lt (rrAT HO479.out)) k_ hk⟩))
     (case aO => exact (rrQ HO_444010.out))
     (case aS => exact (below_size (bT HB)))
     (case aL => have := LMc46.out; omega)
     intro v481 w51 ho hb hg hat
     rw [← Ny480.out] at ho
     have n0_ := Aside0.mk (Kd.Q_over' (rrQ HO_444002.out) (Kd.Q_typed (rrQ HO_444010.out)) (by decide) hg)
     have n1_ := Aside0.mk (Kd.R_over' (rrAT HO_444004.out) (Kd.Q_typed (rrQ HO_444010.out)) (by decide) hg)
     have n2_ := Aside0.mk (Kd.Q_over' (rrQ HO_444007.out) (Kd.Q_typed (rrQ HO_444010.out)) (by decide) hg)
     have n3_ := Aside0.mk (Kd.R_over' (rrAT HO_444009.out) (Kd.Q_typed (rrQ HO_444010.out)) (by decide) hg)
     have n4_ := Aside0.mk (Kd.Q_after (ok := (fun k_ => some k_ ≠ (.slice Ao52 t477.length co52 : Value).ownBlock)) (by (with_reducible repeat (first|apply Kd.Q_alloc|apply Kd.Q_drewN|apply Kd.Q_drew)); exact Kd.Q_mono HO_444011.out (fun _ hk => ⟨hk.2,hk.1⟩)) hg hat)
     have n5_ := Aside0.mk (blk_grown (bkT BK443.out) hg (Kd.Q_ne HO_444010.out BK443.out (by decide)))
     have n6_ := Aside0.mk (Kd.R_after (ok := (fun k_ => some k_ ≠ (u444011 : Value).ownBlock)) (by (with_reducible repeat (first|apply Kd.R_alloc|apply Kd.R_drewN|apply Kd.R_drew)); exact Kd.R_mono HO479.out (fun _ hk => ⟨hk.2,hk.1.2⟩)) hg hat)
     have n7_ := Aside0.mk (hb)
     have n8_ := Aside0.mk (ho)
     clear HO_444002 HO_444004 HO_444007 HO_444009 HO_444011 BK443 HO479 HB HO_444010
     have HO_444002 := n0_
     have HO_444004 := n1_
     have HO_444007 := n2_
     have HO_444009 := n3_
     have HO_444011 := n4_
     have BK443 := n5_
     have HO479 := n6_
     have HB := n7_
     have HO482 := n8_
     clear n0_ n1_ n2_ n3_ n4_ n5_ n6_ n7_ n8_ ho hb hg hat
     obtain ⟨Ao53,co53,eo53,_⟩ := Kd.Q_slice HO482.out
     (first | subst eo53 | (injection eo53 with f1_ f2_ f3_; have f4_ := f1_.symm; have f5_ := f3_.symm; clear f1_ f2_ f3_; subst f4_; subst f5_))
     refine hK.out _ _ ⟨(blk_cell BK443.out 0).trans rfl,(blk_cell BK443.out 1).trans rfl,(blk_cell BK443.out 2).trans rfl,(blk_cell BK443.out 3).trans rfl,(blk_cell BK443.out 4).trans rfl,(blk_cell BK443.out 5).trans rfl,(blk_cell BK443.out 6).trans rfl,(blk_cell BK443.out 7).trans rfl,(blk_cell BK443.out 8).trans rfl,(blk_cell BK443.out 9).trans rfl,(blk_cell BK443.out 10).trans rfl,(blk_cell BK443.out 11).trans rfl⟩ (fun hHeld => ?_)
     clear hK K
     refine norm_ (a' := ?_) ?_ ?_
     rotate_left
     ·
      show Act.put _ (some 50) _ = _
      simp only [Act.put,List.setIfInBounds_toArray,List.set_cons_zero,List.set_cons_succ,i64_w,i32_w]; rfl
     refine pure_ (i := 11) (N := some 51) (v := ?_) (a' := ?_) #[true,true,true,true,true,true,true,true,true,true,true,true,false,false] rfl rfl (any_of HT_.out (by kernel_rfl)) (fun _ _ _ h => h) (Or.inl ⟨by rfl,?_⟩) ?_ ?_; rotate_left
     · intro w'; go_simp; with_reducible rfl
     rotate_left
     · simp only [Act.put,List.setIfInBounds_toArray,List.set_cons_zero,List.set_cons_succ,i64_w,i32_w]; rfl
     refine pure_ (i := 12) (N := some 52) (v := ?_) (a' := ?_) #[true,true,true,true,true,true,true,true,true,true,true,true,true,false] rfl rfl (any_of HT_.out (by kernel_rfl)) (fun _ _ _ h => h) (Or.inl ⟨by rfl,?_⟩) ?_ ?_; rotate_left
     · intro w'; go_simp; with_reducible rfl
     rotate_left
     · simp only [Act.put,List.setIfInBounds_toArray,List.set_cons_zero,List.set_cons_succ,i64_w,i32_w]; rfl
     refine last_ (i := 13) (N := none) #[true,true,true,true,true,true,true,true,true,true,true,true,true,true] rfl rfl (one_of HT_.out (by kernel_rfl)) (by decide) (fun K hK => ?_)
     have hs54 : w51.cell? ⟨gb443,10,none⟩ = some (u444010) := (blk_cell BK443.out 10).trans rfl
     have hfs54 := blk_frozen BK443.out 10
     refine skip_ (w1 := ?_) (by rfl) rfl ?_ ?_
     rotate_left
     · go_simp; rfl
     refine hK.out _ _ ?_
     clear hK K
     refine done_ (done_of HT_.out (by kernel_rfl)) ?_
     try go_wp2
     have H := H'.out
     clear H'
     simp only [Option.some.injEq,Prod.mk.injEq] at H
     obtain ⟨rfl,rfl,rfl,rfl,rfl,rfl,rfl,rfl,rfl,rfl,rfl,rfl⟩ := H
     (try simp only [Exit.inBlock, Exit.then])
     (first | (refine bodyPost_ret (results_none rfl _ _ _) rfl ?_) | (refine bodyPost_end (results_none rfl _ _ _) rfl ?_))
     exact ⟨(.slice Ao48 x444002_4.length co48),(.slice Ao49 x444004_4.length co49),(u444007),(u444009),(.slice Ao53 y480.length co53),(u444011),rfl,⟨by (with_reducible repeat (first|apply Kd.Q_alloc|apply Kd.Q_drewN|apply Kd.Q_drew)); exact Kd.Q_mono (Kd.Q_far (p := ⟨gb443,10,none⟩) (Kd.Q_types HO_444002.out BK443.out (by decide)) (fun _ h=>h.2) (.slice Ao53 y480.length co53)) (fun _ hk => ⟨hk.1.1,⟨hk.1.2.1,hk.1.2.2⟩⟩)⟩,⟨by (with_reducible repeat (first|apply Kd.R_alloc|apply Kd.R_drewN|apply Kd.R_drew)); exact Kd.R_mono (Kd.R_far (p := ⟨gb443,10,none⟩) (Kd.R_types HO_444004.out BK443.out (by decide)) (fun _ h=>h.2) (.slice Ao53 y480.length co53)) (fun _ hk => ⟨hk.1.1,⟨hk.1.2.1,hk.1.2.2⟩⟩)⟩,⟨by (with_reducible repeat (first|apply Kd.Q_alloc|apply Kd.Q_drewN|apply Kd.Q_drew)); exact Kd.Q_mono (Kd.Q_far (p := ⟨gb443,10,none⟩) (Kd.Q_types HO_444007.out BK443.out (by decide)) (fun _ h=>h.2) (.slice Ao53 y480.length co53)) (fun _ hk => ⟨hk.1.1,⟨hk.1.2.1,hk.1.2.2⟩⟩)⟩,⟨by (with_reducible repeat (first|apply Kd.R_alloc|apply Kd.R_drewN|apply Kd.R_drew)); exact Kd.R_mono (Kd.R_far (p := ⟨gb443,10,none⟩) (Kd.R_types HO_444009.out BK443.out (by decide)) (fun _ h=>h.2) (.slice Ao53 y480.length co53)) (fun _ hk => ⟨hk.1.1,⟨hk.1.2.1,hk.1.2.2⟩⟩)⟩,⟨by (with_reducible repeat (first|apply Kd.Q_alloc|apply Kd.Q_drewN|apply Kd.Q_drew)); exact Kd.Q_mono (Kd.Q_far (p := ⟨gb443,10,none⟩) (Kd.Q_types HO482.out BK443.out (by decide)) (fun _ h=>h.2) (.slice Ao53 y480.length co53)) (fun _ hk => hk.1.1)⟩,⟨by (with_reducible repeat (first|apply Kd.Q_alloc|apply Kd.Q_drewN|apply Kd.Q_drew)); exact Kd.Q_mono (Kd.Q_far (p := ⟨gb443,10,none⟩) (Kd.Q_types HO_444011.out BK443.out (by decide)) (fun _ h=>h.2) (.slice Ao53 y480.length co53)) (fun _ hk => hk.1.2)⟩,⟨by (with_reducible repeat (first|refine blk_drewN ?_ _|refine blk_drew ?_|refine blk_alloc ?_ _)); refine blk_put (cs := #[.int .i64 x444000_4,.int .i64 x444001_4,.slice Ao48 x444002_4.length co48,.int .i64 x444003_4,.slice Ao49 x444004_4.length co49,.int .i64 x444005_4,.int .i64 x444006_4,u444007,.int .i64 x444008_4,u444009,u444010,u444011]) ?_ 10 _ rfl; (with_reducible repeat (first|refine blk_drewN ?_ _|refine blk_drew ?_|refine blk_alloc ?_ _)); exact BK443.out⟩,⟨bT HB⟩⟩
    ·
     rw [if_neg c46] at H
     exact absurd H (by simp)
   ·
    rw [if_neg c44] at H
    have c44b0 : ((Int.tmod n 4) == 1) = false := beq_eq_false_iff_ne.mpr c44
    have c44b1 : ((Int.tmod n 4) != 1) = true := bne_iff_ne.mpr c44
    by_cases c55 : (Int.tmod n 4) = 2
    ·
     rw [if_pos c55] at H
     have c55b0 : ((Int.tmod n 4) == 2) = true := beq_iff_eq.mpr c55
     have c55b1 : ((Int.tmod n 4) != 2) = false := bne_eq_false_iff_eq.mpr c55
     clear c55
     by_cases c56 : (x444010_4.length : Int) = 0
     ·
      rw [if_pos c56] at H
      have c56b0 : ((x444010_4.length : Int) == 0) = true := beq_iff_eq.mpr c56
      have c56b1 : ((x444010_4.length : Int) != 0) = false := bne_eq_false_iff_eq.mpr c56
      clear c56
      have H' := Aside0.mk H
      clear H
      obtain ⟨_,_,_,_,_,_,_,_,_,_,_,_,_,_,_,_,_,_,_,_,_,_,_,_⟩ := cz12 BK443.out
      obtain ⟨Ao58,co58,eo58,_⟩ := Kd.Q_slice HO_444010.out
      subst eo58
      go_wp2
      have H := H'.out
      clear H'
      simp only [Option.some.injEq,Prod.mk.injEq] at H
      obtain ⟨rfl,rfl,rfl,rfl,rfl,rfl,rfl,rfl,rfl,rfl,rfl,rfl⟩ := H
      (try simp only [Exit.inBlock, Exit.then])
      (first | (refine bodyPost_ret (results_none rfl _ _ _) rfl ?_) | (refine bodyPost_end (results_none rfl _ _ _) rfl ?_))
      exact ⟨(u444002),(u444004),(u444007),(u444009),(.slice Ao58 x444010_4.length co58),(u444011),rfl,⟨(rrQ HO_444002.out)⟩,⟨(rrAT HO_444004.out)⟩,⟨(rrQ HO_444007.out)⟩,⟨(rrAT HO_444009.out)⟩,⟨(rrQ HO_444010.out)⟩,⟨(rrQ HO_444011.out)⟩,⟨(bkT BK443.out)⟩,⟨bT HB⟩⟩
     ·
      rw [if_neg c56] at H
      have c56b0 : ((x444010_4.length : Int) == 0) = false := beq_eq_false_iff_ne.mpr c56
      have c56b1 : ((x444010_4.length : Int) != 0) = true := bne_iff_ne.mpr c56
      have c56b2 : ¬ (x444010_4 = []) := fun h_ => c56 (by rw [h_]; rfl)
      by_cases c59 : 0 < (x444010_4.length : Int)
      ·
       rw [if_pos c59] at H
       have c59b0 : decide (0 < (x444010_4.length : Int)) = true := decide_eq_true c59
       have c59b1 : decide (0 < x444010_4.length) = true := decide_eq_true (by omega)
       clear c59
       by_cases c60 : 1 ≤ (x444010_4.length : Int)
       ·
        rw [if_pos c60] at H
        have c60b0 := eq_true c60
        have c60b1 : decide (1 ≤ (x444010_4.length : Int)) = true := decide_eq_true c60
        clear c60
        obtain ⟨y485,hy485⟩ : ∃ y_ : List (S36),y_ = (x444010_4.drop (1 : Int).toNat) := ⟨_,rfl⟩
        replace H : (if ((Int.tmod (wrap64 (Int.tdiv n 4)) 2) = 1) then (some (x444000_4,x444001_4,x444002_4,x444003_4,x444004_4,x444005_4,x444006_4,x444007_4,x444008_4,x444009_4,y485,x444011_4)) else ((impl_Receive.f k4 x444005_4 x444006_4 x444007_4 x444008_4 x444009_4 ((rd_T36 x444010_4 0).f0) ((rd_T36 x444010_4 0).f1) ((rd_T36 x444010_4 0).f2)).bind fun bt488 => ((impl_SendAgain.f k4 bt488.1 bt488.2.1 bt488.2.2.1 bt488.2.2.2.1 bt488.2.2.2.2.1).bind fun t498 => (if x444011_4.length + t498.length < 4398046511104 then (some (x444000_4,x444001_4,x444002_4,x444003_4,x444004_4,bt488.1,bt488.2.1,bt488.2.2.1,bt488.2.2.2.1,bt488.2.2.2.2.1,y485,(x444011_4 ++ t498))) else (none))))) = some (r0,r1,r2,r3,r4,r5,r6,r7,r8,r9,r10,r11) := by first | (rw [hy485]; with_reducible exact H) | (have H2_ := (Option.bind_some _ _).symm.trans H; rw [hy485]; with_reducible exact H2_) | (have H2_ := (Option.bind_some _ _).symm.trans H; with_reducible exact H2_)|with_reducible exact H | (rw [hy485]; exact H)|exact H
        have Ny485 := Aside0.mk hy485
        clear hy485
        by_cases c61 : ((Int.tmod (wrap64 (Int.tdiv n 4)) 2) = 1)
        ·
         rw [if_pos c61] at H
         have c61b0 : ((Int.tmod (wrap64 (Int.tdiv n 4)) 2) == 1) = true := beq_iff_eq.mpr c61
         have c61b1 : ((Int.tmod (wrap64 (Int.tdiv n 4)) 2) != 1) = false := bne_eq_false_iff_eq.mpr c61
         clear c61
         have H' := Aside0.mk H
         clear H
         obtain ⟨_,_,_,_,_,_,_,_,_,_,_,_,_,_,_,_,_,_,_,_,_,_,_,_⟩ := cz12 BK443.out
         obtain ⟨Ao63,co63,eo63,_⟩ := Kd.Q_slice HO_444010.out
         subst eo63
         have p483 : 0 ≤ (0 : Int) := (by omega)
         have q483 : 0 < (x444010_4.length : Int) := of_decide_eq_true (by first|(with_reducible assumption) | assumption)
         obtain ⟨ad483,e483,hx483_0,hx483_1,hx483_2⟩ := at_T36 (Kd.Q_reads' HO_444010.out).2.2 0 p483 q483
         cases e483
         have qi483 : (0 < x444010_4.length) = True := eq_true (by omega)
         (try rw [show ((0 : Int)).toNat = 0 from rfl] at hx483_0)
         (try rw [show 0 * 3 = 0 from rfl] at hx483_0)
         (try rw [Addr.add_zero'] at hx483_0)
         (try rw [show ((0 : Int)).toNat = 0 from rfl] at hx483_1)
         (try rw [show 0 * 3 = 0 from rfl] at hx483_1)
         (try rw [Addr.add_zero'] at hx483_1)
         (try rw [show ((0 : Int)).toNat = 0 from rfl] at hx483_2)
         (try rw [show 0 * 3 = 0 from rfl] at hx483_2)
         (try rw [Addr.add_zero'] at hx483_2)
         replace p483 := eq_true p483
         replace q483 := eq_true q483
         go_wp2_with (first | ((with_reducible refine gate_dst (N := 7) rfl ?_); (try (refine gate_guard (by rfl) ?_; dsimp only)); refine box_event ?hg (N := 7) ?hd (cs := #[.int .i64 0,.int .i64 0,.string (⟨#[]⟩ : ByteArray)]) (t := 36) ?hr ?_; (case hd => rfl); (case hg => rfl); (case hr => first | (go_simp; done) | (go_simp; rfl)); intro gb484 hg w64 hbox hb; have n0_ := Aside0.mk (Kd.Q_below (rrQ HO_444002.out) hb); have n1_ := Aside0.mk (Kd.R_below (rrAT HO_444004.out) hb); have n2_ := Aside0.mk (Kd.Q_below (rrQ HO_444007.out) hb); have n3_ := Aside0.mk (Kd.R_below (rrAT HO_444009.out) hb); have n4_ := Aside0.mk (Kd.Q_below (Kd.Q_elderB (rrQ HO_444010.out) gb484 (Nat.le_of_eq hg.symm)) hb); have n5_ := Aside0.mk (Kd.Q_below (Kd.Q_elderB (rrQ HO_444011.out) gb484 (Nat.le_of_eq hg.symm)) hb); have n6_ := Aside0.mk (blk_below (bkT BK443.out) hb); have n7_ := Aside0.mk (below_step (bT HB) hb); have n8_ := Aside0.mk (hbox); have n9_ := Aside0.mk ((by rw [hg]; exact (below_size (bT HB)) : w.heap.size ≤ gb484)); have n10_ := Aside0.mk ((by rw [hg]; exact (below_size (bT HB)) : w.heap.size ≤ gb484)); have n11_ := Aside0.mk ((by rw [hg]; exact Nat.ne_of_lt (blk_lt (g := gb443) (o := .cells #[.int .i64 x444000_4,.int .i64 x444001_4,u444002,.int .i64 x444003_4,u444004,.int .i64 x444005_4,.int .i64 x444006_4,u444007,.int .i64 x444008_4,u444009,.slice (some ad483) x444010_4.length co63,u444011] 78 (0,0)) (bkT BK443.out)) : gb443 ≠ gb484)); have n12_ := Aside0.mk ((by rw [hg]; exact Nat.ne_of_gt (blk_lt (g := gb443) (o := .cells #[.int .i64 x444000_4,.int .i64 x444001_4,u444002,.int .i64 x444003_4,u444004,.int .i64 x444005_4,.int .i64 x444006_4,u444007,.int .i64 x444008_4,u444009,.slice (some ad483) x444010_4.length co63,u444011] 78 (0,0)) (bkT BK443.out)) : gb484 ≠ gb443)); clear HO_444002 HO_444004 HO_444007 HO_444009 HO_444010 HO_444011 BK443 HB; have HO_444002 := n0_; have HO_444004 := n1_; have HO_444007 := n2_; have HO_444009 := n3_; have HO_444010 := n4_; have HO_444011 := n5_; have BK443 := n6_; have HB := n7_; have BK484 := n8_; have GW484 := n9_; have GE484 := n10_; have NB443_484 := n11_; have NB484_443 := n12_; clear n0_ n1_ n2_ n3_ n4_ n5_ n6_ n7_ n8_ n9_ n10_ n11_ n12_ hb hbox hg; have hnb65 := NB484_443.out; have hnc65 := NB443_484.out; obtain ⟨_,_,_,_,_,_⟩ := cz3 BK484.out) | ((with_reducible refine gate_store (t := 36) (p := 7) rfl ?_); refine store_event (t := 36) (p := 7) (v := ?vo_w67) (w1 := (((w64.setCell ⟨gb484,0,none⟩ (.int .i64 ((rd_T36 x444010_4 0).f0))).setCell ⟨gb484,1,none⟩ (.int .i64 ((rd_T36 x444010_4 0).f1))).setCell ⟨gb484,2,none⟩ (.string ((rd_T36 x444010_4 0).f2)))) ?hg ?ho ?hn ?hr ?_; (case ho => rfl); (case hg => rfl); (case hn => rfl); (case hr => first | (go_simp; done) | (go_simp; rfl)); intro w67 hw; have n0_ : Aside0 (Kd.Q Kd.string 9 w67 w.heap.size (fun k_ => some k_ ≠ (u444004 : Value).ownBlock ∧ some k_ ≠ (u444007 : Value).ownBlock ∧ some k_ ≠ (u444009 : Value).ownBlock) u444002 x444002_4) := ⟨(by rw [hw]; exact (by (with_reducible repeat (first|apply Kd.Q_alloc|apply Kd.Q_drewN|apply Kd.Q_drew)); exact Kd.Q_mono (Kd.Q_far (p := ⟨gb484,2,none⟩) (Kd.Q_far (p := ⟨gb484,1,none⟩) (Kd.Q_far (p := ⟨gb484,0,none⟩) (Kd.Q_types HO_444002.out BK484.out (by decide)) (fun _ h=>h.2) (.int .i64 ((rd_T36 x444010_4 0).f0))) (fun _ h=>h.2) (.int .i64 ((rd_T36 x444010_4 0).f1))) (fun _ h=>h.2) (.string ((rd_T36 x444010_4 0).f2))) (fun _ hk => ⟨hk.1.1,⟨hk.1.2.1,hk.1.2.2⟩⟩)))⟩; have n1_ : Aside0 (Kd.R Kd.string 9 w67 w.heap.size (fun k_ => some k_ ≠ (u444002 : Value).ownBlock ∧ some k_ ≠ (u444007 : Value).ownBlock ∧ some k_ ≠ (u444009 : Value).ownBlock) u444004 x444004_4) := ⟨(by rw [hw]; exact (by (with_reducible repeat (first|apply Kd.R_alloc|apply Kd.R_drewN|apply Kd.R_drew)); exact Kd.R_mono (Kd.R_far (p := ⟨gb484,2,none⟩) (Kd.R_far (p := ⟨gb484,1,none⟩) (Kd.R_far (p := ⟨gb484,0,none⟩) (Kd.R_types HO_444004.out BK484.out (by decide)) (fun _ h=>h.2) (.int .i64 ((rd_T36 x444010_4 0).f0))) (fun _ h=>h.2) (.int .i64 ((rd_T36 x444010_4 0).f1))) (fun _ h=>h.2) (.string ((rd_T36 x444010_4 0).f2))) (fun _ hk => ⟨hk.1.1,⟨hk.1.2.1,hk.1.2.2⟩⟩)))⟩; have n2_ : Aside0 (Kd.Q Kd.string 9 w67 w.heap.size (fun k_ => some k_ ≠ (u444002 : Value).ownBlock ∧ some k_ ≠ (u444004 : Value).ownBlock ∧ some k_ ≠ (u444009 : Value).ownBlock) u444007 x444007_4) := ⟨(by rw [hw]; exact (by (with_reducible repeat (first|apply Kd.Q_alloc|apply Kd.Q_drewN|apply Kd.Q_drew)); exact Kd.Q_mono (Kd.Q_far (p := ⟨gb484,2,none⟩) (Kd.Q_far (p := ⟨gb484,1,none⟩) (Kd.Q_far (p := ⟨gb484,0,none⟩) (Kd.Q_types HO_444007.out BK484.out (by decide)) (fun _ h=>h.2) (.int .i64 ((rd_T36 x444010_4 0).f0))) (fun _ h=>h.2) (.int .i64 ((rd_T36 x444010_4 0).f1))) (fun _ h=>h.2) (.string ((rd_T36 x444010_4 0).f2))) (fun _ hk => ⟨hk.1.1,⟨hk.1.2.1,hk.1.2.2⟩⟩)))⟩; have n3_ : Aside0 (Kd.R Kd.string 9 w67 w.heap.size (fun k_ => some k_ ≠ (u444002 : Value).ownBlock ∧ some k_ ≠ (u444004 : Value).ownBlock ∧ some k_ ≠ (u444007 : Value).ownBlock) u444009 x444009_4) := ⟨(by rw [hw]; exact (by (with_reducible repeat (first|apply Kd.R_alloc|apply Kd.R_drewN|apply Kd.R_drew)); exact Kd.R_mono (Kd.R_far (p := ⟨gb484,2,none⟩) (Kd.R_far (p := ⟨gb484,1,none⟩) (Kd.R_far (p := ⟨gb484,0,none⟩) (Kd.R_types HO_444009.out BK484.out (by decide)) (fun _ h=>h.2) (.int .i64 ((rd_T36 x444010_4 0).f0))) (fun _ h=>h.2) (.int .i64 ((rd_T36 x444010_4 0).f1))) (fun _ h=>h.2) (.string ((rd_T36 x444010_4 0).f2))) (fun _ hk => ⟨hk.1.1,⟨hk.1.2.1,hk.1.2.2⟩⟩)))⟩; have n4_ : Aside0 (Kd.Q k36 36 w67 w.heap.size (fun k_ => some k_ ≠ (u444011 : Value).ownBlock ∧ k_ ≠ gb484) (.slice (some ad483) x444010_4.length co63) x444010_4) := ⟨(by rw [hw]; exact (by (with_reducible repeat (first|apply Kd.Q_alloc|apply Kd.Q_drewN|apply Kd.Q_drew)); exact Kd.Q_mono (Kd.Q_far (p := ⟨gb484,2,none⟩) (Kd.Q_far (p := ⟨gb484,1,none⟩) (Kd.Q_far (p := ⟨gb484,0,none⟩) (Kd.Q_mono HO_444010.out (fun k_ hk => (⟨hk,hk.2⟩ : _ ∧ k_ ≠ gb484))) (fun _ h=>h.2) (.int .i64 ((rd_T36 x444010_4 0).f0))) (fun _ h=>h.2) (.int .i64 ((rd_T36 x444010_4 0).f1))) (fun _ h=>h.2) (.string ((rd_T36 x444010_4 0).f2))) (fun _ hk => ⟨hk.1.1,hk.1.2⟩)))⟩; have n5_ : Aside0 (Kd.Q k36 36 w67 w.heap.size (fun k_ => some k_ ≠ (.slice (some ad483) x444010_4.length co63 : Value).ownBlock ∧ k_ ≠ gb484) u444011 x444011_4) := ⟨(by rw [hw]; exact (by (with_reducible repeat (first|apply Kd.Q_alloc|apply Kd.Q_drewN|apply Kd.Q_drew)); exact Kd.Q_mono (Kd.Q_far (p := ⟨gb484,2,none⟩) (Kd.Q_far (p := ⟨gb484,1,none⟩) (Kd.Q_far (p := ⟨gb484,0,none⟩) (Kd.Q_mono HO_444011.out (fun k_ hk => (⟨hk,hk.2⟩ : _ ∧ k_ ≠ gb484))) (fun _ h=>h.2) (.int .i64 ((rd_T36 x444010_4 0).f0))) (fun _ h=>h.2) (.int .i64 ((rd_T36 x444010_4 0).f1))) (fun _ h=>h.2) (.string ((rd_T36 x444010_4 0).f2))) (fun _ hk => ⟨hk.1.1,hk.1.2⟩)))⟩; have n6_ : Aside0 (w67.heap[gb443]? = some (.cells #[.int .i64 x444000_4,.int .i64 x444001_4,u444002,.int .i64 x444003_4,u444004,.int .i64 x444005_4,.int .i64 x444006_4,u444007,.int .i64 x444008_4,u444009,.slice (some ad483) x444010_4.length co63,u444011] 78 (0,0))) := ⟨(by rw [hw]; exact (bkT BK443.out))⟩; have n7_ : Aside0 (w67.heap[gb484]? = some (.cells #[.int .i64 ((rd_T36 x444010_4 0).f0),.int .i64 ((rd_T36 x444010_4 0).f1),.string ((rd_T36 x444010_4 0).f2)] 36 (0,0))) := ⟨(by rw [hw]; exact (by (with_reducible repeat (first|refine blk_drewN ?_ _|refine blk_drew ?_|refine blk_alloc ?_ _)); refine blk_put (cs := #[.int .i64 ((rd_T36 x444010_4 0).f0),.int .i64 ((rd_T36 x444010_4 0).f1),.string (⟨#[]⟩ : ByteArray)]) ?_ 2 _ rfl; (with_reducible repeat (first|refine blk_drewN ?_ _|refine blk_drew ?_|refine blk_alloc ?_ _)); refine blk_put (cs := #[.int .i64 ((rd_T36 x444010_4 0).f0),.int .i64 0,.string (⟨#[]⟩ : ByteArray)]) ?_ 1 _ rfl; (with_reducible repeat (first|refine blk_drewN ?_ _|refine blk_drew ?_|refine blk_alloc ?_ _)); refine blk_put (cs := #[.int .i64 0,.int .i64 0,.string (⟨#[]⟩ : ByteArray)]) ?_ 0 _ rfl; (with_reducible repeat (first|refine blk_drewN ?_ _|refine blk_drew ?_|refine blk_alloc ?_ _)); exact BK484.out))⟩; have n8_ : Aside0 (Below w.heap.size w w67) := ⟨(by rw [hw]; exact (bT HB))⟩; clear hw HO_444002 HO_444004 HO_444007 HO_444009 HO_444010 HO_444011 BK443 BK484 HB; have HO_444002 := n0_; have HO_444004 := n1_; have HO_444007 := n2_; have HO_444009 := n3_; have HO_444010 := n4_; have HO_444011 := n5_; have BK443 := n6_; have BK484 := n7_; have HB := n8_; clear n0_ n1_ n2_ n3_ n4_ n5_ n6_ n7_ n8_; obtain ⟨_,_,_,_,_,_,_,_,_,_,_,_,_,_,_,_,_,_,_,_,_,_,_,_⟩ := cz12 BK443.out; have q69 : (1 : Int) ≤ ((x444010_4.length : Int) : Int) := of_decide_eq_true (by first|(with_reducible assumption) | assumption); obtain ⟨i069,hi069,_,hsz69,_⟩ := info_parts info36; have hcut69 := cut_from (P := Try.prog) 45 36 .i64 Try.underlying45 hi069 3 hsz69 (some ad483) x444010_4.length co63 1 (by omega) q69; have hr69 := Kd.Q_drop (k := (1 : Int).toNat) HO_444010.out (by omega); obtain ⟨A69,hA69⟩ : ∃ A1,A1 = (if co63 = (1 : Int).toNat then (some ad483) else ((some ad483) : Option Addr).map (·.add ((1 : Int).toNat * 3))) := ⟨_,rfl⟩; obtain ⟨c69,hc69⟩ : ∃ c1,c1 = co63 - (1 : Int).toNat := ⟨_,rfl⟩; have hy69 : y485.length = x444010_4.length - (1 : Int).toNat := (by rw [Ny485.out,List.length_drop]); rw [← Ny485.out] at hr69; rw [← hy69,← hA69,← hc69] at hcut69; replace hr69 : Kd.Q k36 36 w67 w.heap.size (fun k_ => some k_ ≠ (u444011 : Value).ownBlock ∧ k_ ≠ gb484) (.slice A69 y485.length c69) y485 := (by rw [hA69,hc69,hy69]; exact hr69); have HE69 : Aside0 ((Value.slice A69 y485.length c69).ownBlock = (.slice (some ad483) x444010_4.length co63 : Value).ownBlock) := ⟨by rw [hA69]; split <;> (cases ((some ad483) : Option Addr) <;> first|rfl|(simp only [Option.map_some,Value.ownBlock]; unfold Addr.add; split <;> rfl))⟩; clear hy69 hi069 hsz69 HO_444010 hA69 hc69; have HO487 := Aside0.mk hr69; clear hr69; replace q69 := eq_true q69; have n_ := Aside0.mk (Kd.Q_mono (ok' := fun k_ => (some k_ ≠ (.slice A69 y485.length c69 : Value).ownBlock ∧ k_ ≠ gb484)) HO_444011.out (fun k_ hk => ⟨(by rw [HE69.out]; exact hk.1),hk.2⟩)); clear HO_444011; have HO_444011 := n_; clear n_))
         have H := H'.out
         clear H'
         simp only [Option.some.injEq,Prod.mk.injEq] at H
         obtain ⟨rfl,rfl,rfl,rfl,rfl,rfl,rfl,rfl,rfl,rfl,rfl,rfl⟩ := H
         (try simp only [Exit.inBlock, Exit.then])
         (first | (refine bodyPost_ret (results_none rfl _ _ _) rfl ?_) | (refine bodyPost_end (results_none rfl _ _ _) rfl ?_))
         exact ⟨(u444002),(u444004),(u444007),(u444009),(.slice A69 y485.length c69),(u444011),rfl,⟨by (with_reducible repeat (first|apply Kd.Q_alloc|apply Kd.Q_drewN|apply Kd.Q_drew)); exact Kd.Q_mono (Kd.Q_far (p := ⟨gb443,10,none⟩) (Kd.Q_types HO_444002.out BK443.out (by decide)) (fun _ h=>h.2) (.slice A69 y485.length c69)) (fun _ hk => ⟨hk.1.1,⟨hk.1.2.1,hk.1.2.2⟩⟩)⟩,⟨by (with_reducible repeat (first|apply Kd.R_alloc|apply Kd.R_drewN|apply Kd.R_drew)); exact Kd.R_mono (Kd.R_far (p := ⟨gb443,10,none⟩) (Kd.R_types HO_444004.out BK443.out (by decide)) (fun _ h=>h.2) (.slice A69 y485.length c69)) (fun _ hk => ⟨hk.1.1,⟨hk.1.2.1,hk.1.2.2⟩⟩)⟩,⟨by (with_reducible repeat (first|apply Kd.Q_alloc|apply Kd.Q_drewN|apply Kd.Q_drew)); exact Kd.Q_mono (Kd.Q_far (p := ⟨gb443,10,none⟩) (Kd.Q_types HO_444007.out BK443.out (by decide)) (fun _ h=>h.2) (.slice A69 y485.length c69)) (fun _ hk => ⟨hk.1.1,⟨hk.1.2.1,hk.1.2.2⟩⟩)⟩,⟨by (with_reducible repeat (first|apply Kd.R_alloc|apply Kd.R_drewN|apply Kd.R_drew)); exact Kd.R_mono (Kd.R_far (p := ⟨gb443,10,none⟩) (Kd.R_types HO_444009.out BK443.out (by decide)) (fun _ h=>h.2) (.slice A69 y485.length c69)) (fun _ hk => ⟨hk.1.1,⟨hk.1.2.1,hk.1.2.2⟩⟩)⟩,⟨by (with_reducible repeat (first|apply Kd.Q_alloc|apply Kd.Q_drewN|apply Kd.Q_drew)); exact Kd.Q_mono (Kd.Q_far (p := ⟨gb443,10,none⟩) (Kd.Q_types HO487.out BK443.out (by decide)) (fun _ h=>h.2) (.slice A69 y485.length c69)) (fun _ hk => hk.1.1)⟩,⟨by (with_reducible repeat (first|apply Kd.Q_alloc|apply Kd.Q_drewN|apply Kd.Q_drew)); exact Kd.Q_mono (Kd.Q_far (p := ⟨gb443,10,none⟩) (Kd.Q_types HO_444011.out BK443.out (by decide)) (fun _ h=>h.2) (.slice A69 y485.length c69)) (fun _ hk => hk.1.1)⟩,⟨by (with_reducible repeat (first|refine blk_drewN ?_ _|refine blk_drew ?_|refine blk_alloc ?_ _)); refine blk_put (cs := #[.int .i64 x444000_4,.int .i64 x444001_4,u444002,.int .i64 x444003_4,u444004,.int .i64 x444005_4,.int .i64 x444006_4,u444007,.int .i64 x444008_4,u444009,.slice (some ad483) x444010_4.length co63,u444011]) ?_ 10 _ rfl; (with_reducible repeat (first|refine blk_drewN ?_ _|refine blk_drew ?_|refine blk_alloc ?_ _)); exact BK443.out⟩,⟨bT HB⟩⟩
        ·
         rw [if_neg c61] at H
         have c61b0 : ((Int.tmod (wrap64 (Int.tdiv n 4)) 2) == 1) = false := beq_eq_false_iff_ne.mpr c61
         have c61b1 : ((Int.tmod (wrap64 (Int.tdiv n 4)) 2) != 1) = true := bne_iff_ne.mpr c61
         replace H := Option.bind_eq_some_iff.mp H
         obtain ⟨⟨t488,t489,t490,t493,t494,t497⟩,A700,H⟩ := H
         replace H : ((impl_SendAgain.f k4 t488 t489 t490 t493 t494).bind fun t498 => (if x444011_4.length + t498.length < 4398046511104 then (some (x444000_4,x444001_4,x444002_4,x444003_4,x444004_4,t488,t489,t490,t493,t494,y485,(x444011_4 ++ t498))) else (none))) = some (r0,r1,r2,r3,r4,r5,r6,r7,r8,r9,r10,r11) := H
         have A70 := Aside0.mk A700
         clear A700
         replace H := Option.bind_eq_some_iff.mp H
         obtain ⟨t498,A710,H⟩ := H
         replace H : (if x444011_4.length + t498.length < 4398046511104 then (some (x444000_4,x444001_4,x444002_4,x444003_4,x444004_4,t488,t489,t490,t493,t494,y485,(x444011_4 ++ t498))) else (none)) = some (r0,r1,r2,r3,r4,r5,r6,r7,r8,r9,r10,r11) := H
         have A71 := Aside0.mk A710
         clear A710
         by_cases c72 : x444011_4.length + t498.length < 4398046511104
         ·
          rw [if_pos c72] at H
          have LMc72 := Aside0.mk c72
          clear c72
          obtain ⟨y501,hy501⟩ : ∃ y_ : List (S36),y_ = (x444011_4 ++ t498) := ⟨_,rfl⟩
          replace H : (some (x444000_4,x444001_4,x444002_4,x444003_4,x444004_4,t488,t489,t490,t493,t494,y485,y501)) = some (r0,r1,r2,r3,r4,r5,r6,r7,r8,r9,r10,r11) := by first | (rw [hy501]; with_reducible exact H) | (have H2_ := (Option.bind_some _ _).symm.trans H; rw [hy501]; with_reducible exact H2_) | (have H2_ := (Option.bind_some _ _).symm.trans H; with_reducible exact H2_)|with_reducible exact H | (rw [hy501]; exact H)|exact H
          have Ny501 := Aside0.mk hy501
          clear hy501
          have H' := Aside0.mk H
          clear H
          obtain ⟨_,_,_,_,_,_,_,_,_,_,_,_,_,_,_,_,_,_,_,_,_,_,_,_⟩ := cz12 BK443.out
          obtain ⟨Ao74,co74,eo74,_⟩ := Kd.Q_slice HO_444010.out
          subst eo74
          have p483 : 0 ≤ (0 : Int) := (by omega)
          have q483 : 0 < (x444010_4.length : Int) := of_decide_eq_true (by first|(with_reducible assumption) | assumption)
          obtain ⟨ad483,e483,hx483_0,hx483_1,hx483_2⟩ := at_T36 (Kd.Q_reads' HO_444010.out).2.2 0 p483 q483
          cases e483
          have qi483 : (0 < x444010_4.length) = True := eq_true (by omega)
          (try rw [show ((0 : Int)).toNat = 0 from rfl] at hx483_0)
          (try rw [show 0 * 3 = 0 from rfl] at hx483_0)
          (try rw [Addr.add_zero'] at hx483_0)
          (try rw [show ((0 : Int)).toNat = 0 from rfl] at hx483_1)
          (try rw [show 0 * 3 = 0 from rfl] at hx483_1)
          (try rw [Addr.add_zero'] at hx483_1)
          (try rw [show ((0 : Int)).toNat = 0 from rfl] at hx483_2)
          (try rw [show 0 * 3 = 0 from rfl] at hx483_2)
          (try rw [Addr.add_zero'] at hx483_2)
          replace p483 := eq_true p483
          replace q483 := eq_true q483
          try go_wp2_with (first | ((with_reducible refine gate_dst (N := 7) rfl ?_); (try (refine gate_guard (by rfl) ?_; dsimp only)); refine box_event ?hg (N := 7) ?hd (cs := #[.int .i64 0,.int .i64 0,.string (⟨#[]⟩ : ByteArray)]) (t := 36) ?hr ?_; (case hd => rfl); (case hg => rfl); (case hr => first | (go_simp; done) | (go_simp; rfl)); intro gb484 hg w75 hbox hb; have n0_ := Aside0.mk (Kd.Q_below (rrQ HO_444002.out) hb); have n1_ := Aside0.mk (Kd.R_below (rrAT HO_444004.out) hb); have n2_ := Aside0.mk (Kd.Q_below (rrQ HO_444007.out) hb); have n3_ := Aside0.mk (Kd.R_below (rrAT HO_444009.out) hb); have n4_ := Aside0.mk (Kd.Q_below (Kd.Q_elderB (rrQ HO_444010.out) gb484 (Nat.le_of_eq hg.symm)) hb); have n5_ := Aside0.mk (Kd.Q_below (Kd.Q_elderB (rrQ HO_444011.out) gb484 (Nat.le_of_eq hg.symm)) hb); have n6_ := Aside0.mk (blk_below (bkT BK443.out) hb); have n7_ := Aside0.mk (below_step (bT HB) hb); have n8_ := Aside0.mk (hbox); have n9_ := Aside0.mk ((by rw [hg]; exact (below_size (bT HB)) : w.heap.size ≤ gb484)); have n10_ := Aside0.mk ((by rw [hg]; exact (below_size (bT HB)) : w.heap.size ≤ gb484)); have n11_ := Aside0.mk ((by rw [hg]; exact Nat.ne_of_lt (blk_lt (g := gb443) (o := .cells #[.int .i64 x444000_4,.int .i64 x444001_4,u444002,.int .i64 x444003_4,u444004,.int .i64 x444005_4,.int .i64 x444006_4,u444007,.int .i64 x444008_4,u444009,.slice (some ad483) x444010_4.length co74,u444011] 78 (0,0)) (bkT BK443.out)) : gb443 ≠ gb484)); have n12_ := Aside0.mk ((by rw [hg]; exact Nat.ne_of_gt (blk_lt (g := gb443) (o := .cells #[.int .i64 x444000_4,.int .i64 x444001_4,u444002,.int .i64 x444003_4,u444004,.int .i64 x444005_4,.int .i64 x444006_4,u444007,.int .i64 x444008_4,u444009,.slice (some ad483) x444010_4.length co74,u444011] 78 (0,0)) (bkT BK443.out)) : gb484 ≠ gb443)); clear HO_444002 HO_444004 HO_444007 HO_444009 HO_444010 HO_444011 BK443 HB; have HO_444002 := n0_; have HO_444004 := n1_; have HO_444007 := n2_; have HO_444009 := n3_; have HO_444010 := n4_; have HO_444011 := n5_; have BK443 := n6_; have HB := n7_; have BK484 := n8_; have GW484 := n9_; have GE484 := n10_; have NB443_484 := n11_; have NB484_443 := n12_; clear n0_ n1_ n2_ n3_ n4_ n5_ n6_ n7_ n8_ n9_ n10_ n11_ n12_ hb hbox hg; have hnb76 := NB484_443.out; have hnc76 := NB443_484.out; obtain ⟨_,_,_,_,_,_⟩ := cz3 BK484.out) | ((with_reducible refine gate_store (t := 36) (p := 7) rfl ?_); refine store_event (t := 36) (p := 7) (v := ?vo_w78) (w1 := (((w75.setCell ⟨gb484,0,none⟩ (.int .i64 ((rd_T36 x444010_4 0).f0))).setCell ⟨gb484,1,none⟩ (.int .i64 ((rd_T36 x444010_4 0).f1))).setCell ⟨gb484,2,none⟩ (.string ((rd_T36 x444010_4 0).f2)))) ?hg ?ho ?hn ?hr ?_; (case ho => rfl); (case hg => rfl); (case hn => rfl); (case hr => first | (go_simp; done) | (go_simp; rfl)); intro w78 hw; have n0_ : Aside0 (Kd.Q Kd.string 9 w78 w.heap.size (fun k_ => some k_ ≠ (u444004 : Value).ownBlock ∧ some k_ ≠ (u444007 : Value).ownBlock ∧ some k_ ≠ (u444009 : Value).ownBlock) u444002 x444002_4) := ⟨(by rw [hw]; exact (by (with_reducible repeat (first|apply Kd.Q_alloc|apply Kd.Q_drewN|apply Kd.Q_drew)); exact Kd.Q_mono (Kd.Q_far (p := ⟨gb484,2,none⟩) (Kd.Q_far (p := ⟨gb484,1,none⟩) (Kd.Q_far (p := ⟨gb484,0,none⟩) (Kd.Q_types HO_444002.out BK484.out (by decide)) (fun _ h=>h.2) (.int .i64 ((rd_T36 x444010_4 0).f0))) (fun _ h=>h.2) (.int .i64 ((rd_T36 x444010_4 0).f1))) (fun _ h=>h.2) (.string ((rd_T36 x444010_4 0).f2))) (fun _ hk => ⟨hk.1.1,⟨hk.1.2.1,hk.1.2.2⟩⟩)))⟩; have n1_ : Aside0 (Kd.R Kd.string 9 w78 w.heap.size (fun k_ => some k_ ≠ (u444002 : Value).ownBlock ∧ some k_ ≠ (u444007 : Value).ownBlock ∧ some k_ ≠ (u444009 : Value).ownBlock) u444004 x444004_4) := ⟨(by rw [hw]; exact (by (with_reducible repeat (first|apply Kd.R_alloc|apply Kd.R_drewN|apply Kd.R_drew)); exact Kd.R_mono (Kd.R_far (p := ⟨gb484,2,none⟩) (Kd.R_far (p := ⟨gb484,1,none⟩) (Kd.R_far (p := ⟨gb484,0,none⟩) (Kd.R_types HO_444004.out BK484.out (by decide)) (fun _ h=>h.2) (.int .i64 ((rd_T36 x444010_4 0).f0))) (fun _ h=>h.2) (.int .i64 ((rd_T36 x444010_4 0).f1))) (fun _ h=>h.2) (.string ((rd_T36 x444010_4 0).f2))) (fun _ hk => ⟨hk.1.1,⟨hk.1.2.1,hk.1.2.2⟩⟩)))⟩; have n2_ : Aside0 (Kd.Q Kd.string 9 w78 w.heap.size (fun k_ => some k_ ≠ (u444002 : Value).ownBlock ∧ some k_ ≠ (u444004 : Value).ownBlock ∧ some k_ ≠ (u444009 : Value).ownBlock) u444007 x444007_4) := ⟨(by rw [hw]; exact (by (with_reducible repeat (first|apply Kd.Q_alloc|apply Kd.Q_drewN|apply Kd.Q_drew)); exact Kd.Q_mono (Kd.Q_far (p := ⟨gb484,2,none⟩) (Kd.Q_far (p := ⟨gb484,1,none⟩) (Kd.Q_far (p := ⟨gb484,0,none⟩) (Kd.Q_types HO_444007.out BK484.out (by decide)) (fun _ h=>h.2) (.int .i64 ((rd_T36 x444010_4 0).f0))) (fun _ h=>h.2) (.int .i64 ((rd_T36 x444010_4 0).f1))) (fun _ h=>h.2) (.string ((rd_T36 x444010_4 0).f2))) (fun _ hk => ⟨hk.1.1,⟨hk.1.2.1,hk.1.2.2⟩⟩)))⟩; have n3_ : Aside0 (Kd.R Kd.string 9 w78 w.heap.size (fun k_ => some k_ ≠ (u444002 : Value).ownBlock ∧ some k_ ≠ (u444004 : Value).ownBlock ∧ some k_ ≠ (u444007 : Value).ownBlock) u444009 x444009_4) := ⟨(by rw [hw]; exact (by (with_reducible repeat (first|apply Kd.R_alloc|apply Kd.R_drewN|apply Kd.R_drew)); exact Kd.R_mono (Kd.R_far (p := ⟨gb484,2,none⟩) (Kd.R_far (p := ⟨gb484,1,none⟩) (Kd.R_far (p := ⟨gb484,0,none⟩) (Kd.R_types HO_444009.out BK484.out (by decide)) (fun _ h=>h.2) (.int .i64 ((rd_T36 x444010_4 0).f0))) (fun _ h=>h.2) (.int .i64 ((rd_T36 x444010_4 0).f1))) (fun _ h=>h.2) (.string ((rd_T36 x444010_4 0).f2))) (fun _ hk => ⟨hk.1.1,⟨hk.1.2.1,hk.1.2.2⟩⟩)))⟩; have n4_ : Aside0 (Kd.Q k36 36 w78 w.heap.size (fun k_ => some k_ ≠ (u444011 : Value).ownBlock ∧ k_ ≠ gb484) (.slice (some ad483) x444010_4.length co74) x444010_4) := ⟨(by rw [hw]; exact (by (with_reducible repeat (first|apply Kd.Q_alloc|apply Kd.Q_drewN|apply Kd.Q_drew)); exact Kd.Q_mono (Kd.Q_far (p := ⟨gb484,2,none⟩) (Kd.Q_far (p := ⟨gb484,1,none⟩) (Kd.Q_far (p := ⟨gb484,0,none⟩) (Kd.Q_mono HO_444010.out (fun k_ hk => (⟨hk,hk.2⟩ : _ ∧ k_ ≠ gb484))) (fun _ h=>h.2) (.int .i64 ((rd_T36 x444010_4 0).f0))) (fun _ h=>h.2) (.int .i64 ((rd_T36 x444010_4 0).f1))) (fun _ h=>h.2) (.string ((rd_T36 x444010_4 0).f2))) (fun _ hk => ⟨hk.1.1,hk.1.2⟩)))⟩; have n5_ : Aside0 (Kd.Q k36 36 w78 w.heap.size (fun k_ => some k_ ≠ (.slice (some ad483) x444010_4.length co74 : Value).ownBlock ∧ k_ ≠ gb484) u444011 x444011_4) := ⟨(by rw [hw]; exact (by (with_reducible repeat (first|apply Kd.Q_alloc|apply Kd.Q_drewN|apply Kd.Q_drew)); exact Kd.Q_mono (Kd.Q_far (p := ⟨gb484,2,none⟩) (Kd.Q_far (p := ⟨gb484,1,none⟩) (Kd.Q_far (p := ⟨gb484,0,none⟩) (Kd.Q_mono HO_444011.out (fun k_ hk => (⟨hk,hk.2⟩ : _ ∧ k_ ≠ gb484))) (fun _ h=>h.2) (.int .i64 ((rd_T36 x444010_4 0).f0))) (fun _ h=>h.2) (.int .i64 ((rd_T36 x444010_4 0).f1))) (fun _ h=>h.2) (.string ((rd_T36 x444010_4 0).f2))) (fun _ hk => ⟨hk.1.1,hk.1.2⟩)))⟩; have n6_ : Aside0 (w78.heap[gb443]? = some (.cells #[.int .i64 x444000_4,.int .i64 x444001_4,u444002,.int .i64 x444003_4,u444004,.int .i64 x444005_4,.int .i64 x444006_4,u444007,.int .i64 x444008_4,u444009,.slice (some ad483) x444010_4.length co74,u444011] 78 (0,0))) := ⟨(by rw [hw]; exact (bkT BK443.out))⟩; have n7_ : Aside0 (w78.heap[gb484]? = some (.cells #[.int .i64 ((rd_T36 x444010_4 0).f0),.int .i64 ((rd_T36 x444010_4 0).f1),.string ((rd_T36 x444010_4 0).f2)] 36 (0,0))) := ⟨(by rw [hw]; exact (by (with_reducible repeat (first|refine blk_drewN ?_ _|refine blk_drew ?_|refine blk_alloc ?_ _)); refine blk_put (cs := #[.int .i64 ((rd_T36 x444010_4 0).f0),.int .i64 ((rd_T36 x444010_4 0).f1),.string (⟨#[]⟩ : ByteArray)]) ?_ 2 _ rfl; (with_reducible repeat (first|refine blk_drewN ?_ _|refine blk_drew ?_|refine blk_alloc ?_ _)); refine blk_put (cs := #[.int .i64 ((rd_T36 x444010_4 0).f0),.int .i64 0,.string (⟨#[]⟩ : ByteArray)]) ?_ 1 _ rfl; (with_reducible repeat (first|refine blk_drewN ?_ _|refine blk_drew ?_|refine blk_alloc ?_ _)); refine blk_put (cs := #[.int .i64 0,.int .i64 0,.string (⟨#[]⟩ : ByteArray)]) ?_ 0 _ rfl; (with_reducible repeat (first|refine blk_drewN ?_ _|refine blk_drew ?_|refine blk_alloc ?_ _)); exact BK484.out))⟩; have n8_ : Aside0 (Below w.heap.size w w78) := ⟨(by rw [hw]; exact (bT HB))⟩; clear hw HO_444002 HO_444004 HO_444007 HO_444009 HO_444010 HO_444011 BK443 BK484 HB; have HO_444002 := n0_; have HO_444004 := n1_; have HO_444007 := n2_; have HO_444009 := n3_; have HO_444010 := n4_; have HO_444011 := n5_; have BK443 := n6_; have BK484 := n7_; have HB := n8_; clear n0_ n1_ n2_ n3_ n4_ n5_ n6_ n7_ n8_; obtain ⟨_,_,_,_,_,_,_,_,_,_,_,_,_,_,_,_,_,_,_,_,_,_,_,_⟩ := cz12 BK443.out; have q80 : (1 : Int) ≤ ((x444010_4.length : Int) : Int) := of_decide_eq_true (by first|(with_reducible assumption) | assumption); obtain ⟨i080,hi080,_,hsz80,_⟩ := info_parts info36; have hcut80 := cut_from (P := Try.prog) 45 36 .i64 Try.underlying45 hi080 3 hsz80 (some ad483) x444010_4.length co74 1 (by omega) q80; have hr80 := Kd.Q_drop (k := (1 : Int).toNat) HO_444010.out (by omega); obtain ⟨A80,hA80⟩ : ∃ A1,A1 = (if co74 = (1 : Int).toNat then (some ad483) else ((some ad483) : Option Addr).map (·.add ((1 : Int).toNat * 3))) := ⟨_,rfl⟩; obtain ⟨c80,hc80⟩ : ∃ c1,c1 = co74 - (1 : Int).toNat := ⟨_,rfl⟩; have hy80 : y485.length = x444010_4.length - (1 : Int).toNat := (by rw [Ny485.out,List.length_drop]); rw [← Ny485.out] at hr80; rw [← hy80,← hA80,← hc80] at hcut80; replace hr80 : Kd.Q k36 36 w78 w.heap.size (fun k_ => some k_ ≠ (u444011 : Value).ownBlock ∧ k_ ≠ gb484) (.slice A80 y485.length c80) y485 := (by rw [hA80,hc80,hy80]; exact hr80); have HE80 : Aside0 ((Value.slice A80 y485.length c80).ownBlock = (.slice (some ad483) x444010_4.length co74 : Value).ownBlock) := ⟨by rw [hA80]; split <;> (cases ((some ad483) : Option Addr) <;> first|rfl|(simp only [Option.map_some,Value.ownBlock]; unfold Addr.add; split <;> rfl))⟩; clear hy80 hi080 hsz80 HO_444010 hA80 hc80; have HO487 := Aside0.mk hr80; clear hr80; replace q80 := eq_true q80; have n_ := Aside0.mk (Kd.Q_mono (ok' := fun k_ => (some k_ ≠ (.slice A80 y485.length c80 : Value).ownBlock ∧ k_ ≠ gb484)) HO_444011.out (fun k_ hk => ⟨(by rw [HE80.out]; exact hk.1),hk.2⟩)); clear HO_444011; have HO_444011 := n_; clear n_))
          have n0_ : Aside0 (Kd.Q Kd.string 9 (w78.setCell ⟨gb443,10,none⟩ (.slice A80 y485.length c80)) w.heap.size (fun k_ => some k_ ≠ (u444004 : Value).ownBlock ∧ some k_ ≠ (u444007 : Value).ownBlock ∧ some k_ ≠ (u444009 : Value).ownBlock) u444002 x444002_4) := ⟨by (with_reducible repeat (first|apply Kd.Q_alloc|apply Kd.Q_drewN|apply Kd.Q_drew)); exact Kd.Q_mono (Kd.Q_far (p := ⟨gb443,10,none⟩) (Kd.Q_types HO_444002.out BK443.out (by decide)) (fun _ h=>h.2) (.slice A80 y485.length c80)) (fun _ hk => ⟨hk.1.1,⟨hk.1.2.1,hk.1.2.2⟩⟩)⟩
          have n1_ : Aside0 (Kd.R Kd.string 9 (w78.setCell ⟨gb443,10,none⟩ (.slice A80 y485.length c80)) w.heap.size (fun k_ => some k_ ≠ (u444002 : Value).ownBlock ∧ some k_ ≠ (u444007 : Value).ownBlock ∧ some k_ ≠ (u444009 : Value).ownBlock) u444004 x444004_4) := ⟨by (with_reducible repeat (first|apply Kd.R_alloc|apply Kd.R_drewN|apply Kd.R_drew)); exact Kd.R_mono (Kd.R_far (p := ⟨gb443,10,none⟩) (Kd.R_types HO_444004.out BK443.out (by decide)) (fun _ h=>h.2) (.slice A80 y485.length c80)) (fun _ hk => ⟨hk.1.1,⟨hk.1.2.1,hk.1.2.2⟩⟩)⟩
          have n2_ : Aside0 (Kd.Q Kd.string 9 (w78.setCell ⟨gb443,10,none⟩ (.slice A80 y485.length c80)) w.heap.size (fun k_ => some k_ ≠ (u444002 : Value).ownBlock ∧ some k_ ≠ (u444004 : Value).ownBlock ∧ some k_ ≠ (u444009 : Value).ownBlock) u444007 x444007_4) := ⟨by (with_reducible repeat (first|apply Kd.Q_alloc|apply Kd.Q_drewN|apply Kd.Q_drew)); exact Kd.Q_mono (Kd.Q_far (p := ⟨gb443,10,none⟩) (Kd.Q_types HO_444007.out BK443.out (by decide)) (fun _ h=>h.2) (.slice A80 y485.length c80)) (fun _ hk => ⟨hk.1.1,⟨hk.1.2.1,hk.1.2.2⟩⟩)⟩
          have n3_ : Aside0 (Kd.R Kd.string 9 (w78.setCell ⟨gb443,10,none⟩ (.slice A80 y485.length c80)) w.heap.size (fun k_ => some k_ ≠ (u444002 : Value).ownBlock ∧ some k_ ≠ (u444004 : Value).ownBlock ∧ some k_ ≠ (u444007 : Value).ownBlock) u444009 x444009_4) := ⟨by (with_reducible repeat (first|apply Kd.R_alloc|apply Kd.R_drewN|apply Kd.R_drew)); exact Kd.R_mono (Kd.R_far (p := ⟨gb443,10,none⟩) (Kd.R_types HO_444009.out BK443.out (by decide)) (fun _ h=>h.2) (.slice A80 y485.length c80)) (fun _ hk => ⟨hk.1.1,⟨hk.1.2.1,hk.1.2.2⟩⟩)⟩
          have n4_ : Aside0 (Kd.Q k36 36 (w78.setCell ⟨gb443,10,none⟩ (.slice A80 y485.length c80)) w.heap.size (fun k_ => some k_ ≠ (u444011 : Value).ownBlock ∧ k_ ≠ gb484) (.slice A80 y485.length c80) y485) := ⟨by (with_reducible repeat (first|apply Kd.Q_alloc|apply Kd.Q_drewN|apply Kd.Q_drew)); exact Kd.Q_mono (Kd.Q_far (p := ⟨gb443,10,none⟩) (Kd.Q_types HO487.out BK443.out (by decide)) (fun _ h=>h.2) (.slice A80 y485.length c80)) (fun _ hk => ⟨hk.1.1,hk.1.2⟩)⟩
          have n5_ : Aside0 (Kd.Q k36 36 (w78.setCell ⟨gb443,10,none⟩ (.slice A80 y485.length c80)) w.heap.size (fun k_ => some k_ ≠ (.slice A80 y485.length c80 : Value).ownBlock ∧ k_ ≠ gb484) u444011 x444011_4) := ⟨by (with_reducible repeat (first|apply Kd.Q_alloc|apply Kd.Q_drewN|apply Kd.Q_drew)); exact Kd.Q_mono (Kd.Q_far (p := ⟨gb443,10,none⟩) (Kd.Q_types HO_444011.out BK443.out (by decide)) (fun _ h=>h.2) (.slice A80 y485.length c80)) (fun _ hk => ⟨hk.1.1,hk.1.2⟩)⟩
          have n6_ : Aside0 ((w78.setCell ⟨gb443,10,none⟩ (.slice A80 y485.length c80)).heap[gb443]? = some (.cells #[.int .i64 x444000_4,.int .i64 x444001_4,u444002,.int .i64 x444003_4,u444004,.int .i64 x444005_4,.int .i64 x444006_4,u444007,.int .i64 x444008_4,u444009,.slice A80 y485.length c80,u444011] 78 (0,0))) := ⟨by (with_reducible repeat (first|refine blk_drewN ?_ _|refine blk_drew ?_|refine blk_alloc ?_ _)); refine blk_put (cs := #[.int .i64 x444000_4,.int .i64 x444001_4,u444002,.int .i64 x444003_4,u444004,.int .i64 x444005_4,.int .i64 x444006_4,u444007,.int .i64 x444008_4,u444009,.slice (some ad483) x444010_4.length co74,u444011]) ?_ 10 _ rfl; (with_reducible repeat (first|refine blk_drewN ?_ _|refine blk_drew ?_|refine blk_alloc ?_ _)); exact BK443.out⟩
          have n7_ : Aside0 ((w78.setCell ⟨gb443,10,none⟩ (.slice A80 y485.length c80)).heap[gb484]? = some (.cells #[.int .i64 ((rd_T36 x444010_4 0).f0),.int .i64 ((rd_T36 x444010_4 0).f1),.string ((rd_T36 x444010_4 0).f2)] 36 (0,0))) := ⟨(bkT BK484.out)⟩
          have n8_ : Aside0 (Below w.heap.size w (w78.setCell ⟨gb443,10,none⟩ (.slice A80 y485.length c80))) := ⟨bT HB⟩
          generalize (w78.setCell ⟨gb443,10,none⟩ (.slice A80 y485.length c80)) = w81 at n0_ n1_ n2_ n3_ n4_ n5_ n6_ n7_ n8_ ⊢
          have HO_444002 := n0_
          have HO_444004 := n1_
          have HO_444007 := n2_
          have HO_444009 := n3_
          have HO487 := n4_
          have HO_444011 := n5_
          have BK443 := n6_
          have BK484 := n7_
          have HB := n8_
          clear n0_ n1_ n2_ n3_ n4_ n5_ n6_ n7_ n8_
          have n0_ := Aside0.mk (Kd.Q_drew HO_444002.out)
          have n1_ := Aside0.mk (Kd.R_drew HO_444004.out)
          have n2_ := Aside0.mk (Kd.Q_drew HO_444007.out)
          have n3_ := Aside0.mk (Kd.R_drew HO_444009.out)
          have n4_ := Aside0.mk (Kd.Q_drew HO487.out)
          have n5_ := Aside0.mk (Kd.Q_drew HO_444011.out)
          have n6_ := Aside0.mk (blk_drew BK443.out)
          have n7_ := Aside0.mk (blk_drew BK484.out)
          have n8_ := Aside0.mk (below_drew1 HB.out)
          clear HO_444002 HO_444004 HO_444007 HO_444009 HO487 HO_444011 BK443 BK484 HB
          have HO_444002 := n0_
          have HO_444004 := n1_
          have HO_444007 := n2_
          have HO_444009 := n3_
          have HO487 := n4_
          have HO_444011 := n5_
          have BK443 := n6_
          have BK484 := n7_
          have HB := n8_
          clear n0_ n1_ n2_ n3_ n4_ n5_ n6_ n7_ n8_
          obtain ⟨Ao83,co83,eo83,_⟩ := Kd.Q_slice HO_444007.out
          (first | subst eo83 | (injection eo83 with f1_ f2_ f3_; have f4_ := f1_.symm; have f5_ := f3_.symm; clear f1_ f2_ f3_; subst f4_; subst f5_))
          obtain ⟨Ao84,co84,eo84⟩ := Kd.R_slice HO_444009.out
          (first | subst eo84 | (injection eo84 with f1_ f2_ f3_; have f4_ := f1_.symm; have f5_ := f3_.symm; clear f1_ f2_ f3_; subst f4_; subst f5_))
          refine start_ (n := 13) (S := fun w' => w'.cell? ⟨gb443,0,none⟩ = some (.int .i64 x444000_4) ∧ w'.cell? ⟨gb443,1,none⟩ = some (.int .i64 x444001_4) ∧ w'.cell? ⟨gb443,2,none⟩ = some (u444002) ∧ w'.cell? ⟨gb443,3,none⟩ = some (.int .i64 x444003_4) ∧ w'.cell? ⟨gb443,4,none⟩ = some (u444004) ∧ w'.cell? ⟨gb443,5,none⟩ = some (.int .i64 x444005_4) ∧ w'.cell? ⟨gb443,6,none⟩ = some (.int .i64 x444006_4) ∧ w'.cell? ⟨gb443,7,none⟩ = some (.slice Ao83 x444007_4.length co83) ∧ w'.cell? ⟨gb443,8,none⟩ = some (.int .i64 x444008_4) ∧ w'.cell? ⟨gb443,9,none⟩ = some (.slice Ao84 x444009_4.length co84) ∧ w'.cell? ⟨gb443,10,none⟩ = some (.slice A80 y485.length c80) ∧ w'.cell? ⟨gb443,11,none⟩ = some (u444011) ∧ w'.cell? ⟨gb484,0,none⟩ = some (.int .i64 ((rd_T36 x444010_4 0).f0)) ∧ w'.cell? ⟨gb484,1,none⟩ = some (.int .i64 ((rd_T36 x444010_4 0).f1)) ∧ w'.cell? ⟨gb484,2,none⟩ = some (.string ((rd_T36 x444010_4 0).f2))) (ds := [12]) #[false,false,false,false,false,false,false,false,false,false,false,false,false] (by kernel_rfl) rfl rfl ⟨(blk_cell BK443.out 0).trans rfl,(blk_cell BK443.out 1).trans rfl,(blk_cell BK443.out 2).trans rfl,(blk_cell BK443.out 3).trans rfl,(blk_cell BK443.out 4).trans rfl,(blk_cell BK443.out 5).trans rfl,(blk_cell BK443.out 6).trans rfl,(blk_cell BK443.out 7).trans rfl,(blk_cell BK443.out 8).trans rfl,(blk_cell BK443.out 9).trans rfl,(blk_cell BK443.out 10).trans rfl,(blk_cell BK443.out 11).trans rfl,(blk_cell BK484.out 0).trans rfl,(blk_cell BK484.out 1).trans rfl,(blk_cell BK484.out 2).trans rfl⟩ (fun hHeld => ?_); refine with_tabW impl_talk_pick.tab13 impl_talk_pick.bits13 (fun HT_ HW_ => ?_)
          generalize w81.drew = w82 at HO_444002 HO_444004 HO_444007 HO_444009 HO487 HO_444011 BK443 BK484 HB hHeld ⊢
          refine pure_ (i := 0) (N := some 78) (v := ?_) (a' := ?_) #[true,false,false,false,false,false,false,false,false,false,false,false,false] rfl rfl (any_of HT_.out (by kernel_rfl)) (fun _ _ _ h => h) (Or.inl ⟨by rfl,?_⟩) ?_ ?_; rotate_left
          · intro w'; go_simp; with_reducible rfl
          rotate_left
          · simp only [Act.put,List.setIfInBounds_toArray,List.set_cons_zero,List.set_cons_succ,i64_w,i32_w]; rfl
          refine pure_ (i := 1) (N := some 79) (v := ?_) (a' := ?_) #[true,true,false,false,false,false,false,false,false,false,false,false,false] rfl rfl (any_of HT_.out (by kernel_rfl)) (fun _ _ _ h => h) (Or.inl ⟨by rfl,?_⟩) ?_ ?_; rotate_left
          · intro w'; go_simp; with_reducible rfl
          rotate_left
          · simp only [Act.put,List.setIfInBounds_toArray,List.set_cons_zero,List.set_cons_succ,i64_w,i32_w]; rfl
          refine pure_ (i := 2) (N := some 80) (v := ?_) (a' := ?_) #[true,true,true,false,false,false,false,false,false,false,false,false,false] rfl rfl (any_of HT_.out (by kernel_rfl)) (fun _ _ _ h => h) (Or.inl ⟨by rfl,?_⟩) ?_ ?_; rotate_left
          · intro w'; go_simp; with_reducible rfl
          rotate_left
          · simp only [Act.put,List.setIfInBounds_toArray,List.set_cons_zero,List.set_cons_succ,i64_w,i32_w]; rfl
          refine pure_ (i := 3) (N := some 81) (v := ?_) (a' := ?_) #[true,true,true,true,false,false,false,false,false,false,false,false,false] rfl rfl (any_of HT_.out (by kernel_rfl)) (fun _ _ _ h => h) (Or.inl ⟨by rfl,?_⟩) ?_ ?_; rotate_left
          · intro w'; go_simp; with_reducible rfl
          rotate_left
          · simp only [Act.put,List.setIfInBounds_toArray,List.set_cons_zero,List.set_cons_succ,i64_w,i32_w]; rfl
          refine take_ (i := 4) (N := some 82) (v := ?_) (a' := ?_) #[true,true,true,true,true,false,false,false,false,false,false,false,false] rfl rfl (take_ofW HT_.out HW_.out (by kernel_rfl)) (fun _ _ _ h => h) (Or.inl ⟨by rfl,?_⟩) hHeld ?_ ?_; rotate_left
          ·
           rintro w' ⟨s0,s1,s2,s3,s4,s5,s6,s7,s8,s9,s10,s11,s12,s13,s14⟩
           go_simp; with_reducible rfl
          rotate_left
          · simp only [Act.put,List.setIfInBounds_toArray,List.set_cons_zero,List.set_cons_succ,i64_w,i32_w]; rfl
          refine take_ (i := 5) (N := some 83) (v := ?_) (a' := ?_) #[true,true,true,true,true,true,false,false,false,false,false,false,false] rfl rfl (take_ofW HT_.out HW_.out (by kernel_rfl)) (fun _ _ _ h => h) (Or.inl ⟨by rfl,?_⟩) hHeld ?_ ?_; rotate_left
          ·
           rintro w' ⟨s0,s1,s2,s3,s4,s5,s6,s7,s8,s9,s10,s11,s12,s13,s14⟩
           go_simp; with_reducible rfl
          rotate_left
          · simp only [Act.put,List.setIfInBounds_toArray,List.set_cons_zero,List.set_cons_succ,i64_w,i32_w]; rfl
          refine one_ (i := 6) (N := some 84) #[true,true,true,true,true,true,true,false,false,false,false,false,false] rfl rfl (one_of HT_.out (by kernel_rfl)) (by decide) (fun K hK => ?_)
          refine goes_ Try.func20 (by kernel_rfl) rfl #[.agg #[.int .i64 x444005_4,.int .i64 x444006_4,.slice Ao83 x444007_4.length co83,.int .i64 x444008_4,.slice Ao84 x444009_4.length co84],.agg #[.int .i64 ((rd_T36 x444010_4 0).f0),.int .i64 ((rd_T36 x444010_4 0).f1),.string ((rd_T36 x444010_4 0).f2)]] (by rfl) rfl rfl (by (try simp only [List.map_toArray,List.map_cons,List.map_nil]); first | done|rfl|(simp only [List.length_drop,List.length_take]; rfl)) ?_
          with_reducible refine (impl_Receive.calls k4 x444005_4 x444006_4 _ _ x444007_4 x444008_4 _ _ x444009_4 ((rd_T36 x444010_4 0).f0) ((rd_T36 x444010_4 0).f1) ((rd_T36 x444010_4 0).f2) t488 t489 t490 t493 t494 t497 _ ?side1 ?side2 ?side3 ?side4 A70.out).mono ?_
          (case side1 => exact ccT ((Kd.Q_reads' HO_444007.out).2.2))
          (case side2 => exact (Kd.Q_reads' HO_444007.out).2.1)
          (case side3 => exact ccT ((Kd.R_reads' HO_444009.out).2.2))
          (case side4 => exact (Kd.R_reads' HO_444009.out).2.1)
          rintro e w85 ⟨v491,v495,rfl,ho0,ho1,hb⟩
          refine ⟨_,rfl,?_⟩
          have n0_ := Aside0.mk (Kd.Q_mono (Kd.Q_told (Kd.Q_told (Kd.Q_old (rrQ HO_444002.out) hb) (Kd.Q_base ho0)) (Kd.R_base ho1)) (fun _ h_ => h_.1))
          have n1_ := Aside0.mk (Kd.R_mono (Kd.R_told (Kd.R_told (Kd.R_old (rrAT HO_444004.out) hb) (Kd.Q_base ho0)) (Kd.R_base ho1)) (fun _ h_ => h_.1))
          have n2_ := Aside0.mk (Kd.Q_mono (Kd.Q_told (Kd.Q_told (Kd.Q_old (rrQ HO_444007.out) hb) (Kd.Q_base ho0)) (Kd.R_base ho1)) (fun _ h_ => h_.1))
          have n3_ := Aside0.mk (Kd.R_mono (Kd.R_told (Kd.R_told (Kd.R_old (rrAT HO_444009.out) hb) (Kd.Q_base ho0)) (Kd.R_base ho1)) (fun _ h_ => h_.1))
          have n4_ := Aside0.mk (Kd.Q_below (rrQ HO487.out) hb)
          have n5_ := Aside0.mk (Kd.Q_below (rrQ HO_444011.out) hb)
          have n6_ := Aside0.mk (Kd.Q_lower (Kd.Q_new' (Kd.Q_new' (Kd.Q_new' (Kd.Q_new' ho0 (Kd.Q_lt (rrQ HO_444002.out))) (Kd.R_lt (rrAT HO_444004.out))) (Kd.Q_lt (rrQ HO_444007.out))) (Kd.R_lt (rrAT HO_444009.out))) (below_size (bT HB)))
          have n7_ := Aside0.mk (Kd.R_lower (Kd.R_new' (Kd.R_new' (Kd.R_new' (Kd.R_new' ho1 (Kd.Q_lt (rrQ HO_444002.out))) (Kd.R_lt (rrAT HO_444004.out))) (Kd.Q_lt (rrQ HO_444007.out))) (Kd.R_lt (rrAT HO_444009.out))) (below_size (bT HB)))
          have n8_ := Aside0.mk (blk_below (bkT BK443.out) hb)
          have n9_ := Aside0.mk (blk_below (bkT BK484.out) hb)
          have n10_ := Aside0.mk (below_step (bT HB) hb)
          clear HO_444002 HO_444004 HO_444007 HO_444009 HO487 HO_444011 BK443 BK484 HB
          have HO_444002 := n0_
          have HO_444004 := n1_
          have HO_444007 := n2_
          have HO_444009 := n3_
          have HO487 := n4_
          have HO_444011 := n5_
          have HO492 := n6_
          have HO496 := n7_
          have BK443 := n8_
          have BK484 := n9_
          have HB := n10_
          clear n0_ n1_ n2_ n3_ n4_ n5_ n6_ n7_ n8_ n9_ n10_
          obtain ⟨Ao88,co88,eo88,_⟩ := Kd.Q_slice HO492.out
          (first | subst eo88 | (injection eo88 with f1_ f2_ f3_; have f4_ := f1_.symm; have f5_ := f3_.symm; clear f1_ f2_ f3_; subst f4_; subst f5_))
          obtain ⟨Ao91,co91,eo91⟩ := Kd.R_slice HO496.out
          (first | subst eo91 | (injection eo91 with f1_ f2_ f3_; have f4_ := f1_.symm; have f5_ := f3_.symm; clear f1_ f2_ f3_; subst f4_; subst f5_))
          refine hK.out _ _ ⟨(blk_cell BK443.out 0).trans rfl,(blk_cell BK443.out 1).trans rfl,(blk_cell BK443.out 2).trans rfl,(blk_cell BK443.out 3).trans rfl,(blk_cell BK443.out 4).trans rfl,(blk_cell BK443.out 5).trans rfl,(blk_cell BK443.out 6).trans rfl,(blk_cell BK443.out 7).trans rfl,(blk_cell BK443.out 8).trans rfl,(blk_cell BK443.out 9).trans rfl,(blk_cell BK443.out 10).trans rfl,(blk_cell BK443.out 11).trans rfl,(blk_cell BK484.out 0).trans rfl,(blk_cell BK484.out 1).trans rfl,(blk_cell BK484.out 2).trans rfl⟩ (fun hHeld => ?_)
          clear hK K
          refine norm_ (a' := ?_) ?_ ?_
          rotate_left
          ·
           show Act.put _ (some 84) _ = _
           simp only [Act.put,List.setIfInBounds_toArray,List.set_cons_zero,List.set_cons_succ,i64_w,i32_w]; rfl
          refine pure_ (i := 7) (N := some 77) (v := ?_) (a' := ?_) #[true,true,true,true,true,true,true,true,false,false,false,false,false] rfl rfl (any_of HT_.out (by kernel_rfl)) (fun _ _ _ h => h) (Or.inl ⟨by rfl,?_⟩) ?_ ?_; rotate_left
          · intro w'; go_simp; with_reducible rfl
          rotate_left
          · simp only [Act.put,List.setIfInBounds_toArray,List.set_cons_zero,List.set_cons_succ,i64_w,i32_w]; rfl
          refine pure_ (i := 8) (N := some 85) (v := ?_) (a' := ?_) #[true,true,true,true,true,true,true,true,true,false,false,false,false] rfl rfl (any_of HT_.out (by kernel_rfl)) (fun _ _ _ h => h) (Or.inl ⟨by rfl,?_⟩) ?_ ?_; rotate_left
          · intro w'; go_simp; with_reducible rfl
          rotate_left
          · simp only [Act.put,List.setIfInBounds_toArray,List.set_cons_zero,List.set_cons_succ,i64_w,i32_w]; rfl
          refine pure_ (i := 9) (N := some 86) (v := ?_) (a' := ?_) #[true,true,true,true,true,true,true,true,true,true,false,false,false] rfl rfl (any_of HT_.out (by kernel_rfl)) (fun _ _ _ h => h) (Or.inl ⟨by rfl,?_⟩) ?_ ?_; rotate_left
          · intro w'; go_simp; with_reducible rfl
          rotate_left
          · simp only [Act.put,List.setIfInBounds_toArray,List.set_cons_zero,List.set_cons_succ,i64_w,i32_w]; rfl
          refine pure_ (i := 10) (N := some 87) (v := ?_) (a' := ?_) #[true,true,true,true,true,true,true,true,true,true,true,false,false] rfl rfl (any_of HT_.out (by kernel_rfl)) (fun _ _ _ h => h) (Or.inl ⟨by rfl,?_⟩) ?_ ?_; rotate_left
          · intro w'; go_simp; with_reducible rfl
          rotate_left
          · simp only [Act.put,List.setIfInBounds_toArray,List.set_cons_zero,List.set_cons_succ,i64_w,i32_w]; rfl
          refine pure_ (i := 11) (N := some 88) (v := ?_) (a' := ?_) #[true,true,true,true,true,true,true,true,true,true,true,true,false] rfl rfl (any_of HT_.out (by kernel_rfl)) (fun _ _ _ h => h) (Or.inl ⟨by rfl,?_⟩) ?_ ?_; rotate_left
          · intro w'; go_simp; with_reducible rfl
          rotate_left
          · simp only [Act.put,List.setIfInBounds_toArray,List.set_cons_zero,List.set_cons_succ,i64_w,i32_w]; rfl
          refine last_ (i := 12) (N := none) #[true,true,true,true,true,true,true,true,true,true,true,true,true] rfl rfl (one_of HT_.out (by kernel_rfl)) (by decide) (fun K hK => ?_)
          have hs86 : w85.cell? ⟨gb443,5,none⟩ = some (.int .i64 x444005_4) := (blk_cell BK443.out 5).trans rfl
          have hfs86 := blk_frozen BK443.out 5
          have hns86_1 := NB484_443.out
          have hms86_1 := NB443_484.out
          have hs87 : w85.cell? ⟨gb443,6,none⟩ = some (.int .i64 x444006_4) := (blk_cell BK443.out 6).trans rfl
          have hfs87 := blk_frozen BK443.out 6
          have hns87_1 := NB484_443.out
          have hms87_1 := NB443_484.out
          have hs89 : w85.cell? ⟨gb443,7,none⟩ = some (.slice Ao83 x444007_4.length co83) := (blk_cell BK443.out 7).trans rfl
          have hfs89 := blk_frozen BK443.out 7
          have hns89_1 := NB484_443.out
          have hms89_1 := NB443_484.out
          have hs90 : w85.cell? ⟨gb443,8,none⟩ = some (.int .i64 x444008_4) := (blk_cell BK443.out 8).trans rfl
          have hfs90 := blk_frozen BK443.out 8
          have hns90_1 := NB484_443.out
          have hms90_1 := NB443_484.out
          have hs92 : w85.cell? ⟨gb443,9,none⟩ = some (.slice Ao84 x444009_4.length co84) := (blk_cell BK443.out 9).trans rfl
          have hfs92 := blk_frozen BK443.out 9
          have hns92_1 := NB484_443.out
          have hms92_1 := NB443_484.out
          refine skip_ (w1 := ?_) (by rfl) rfl ?_ ?_
          rotate_left
          · go_simp; rfl
          refine hK.out _ _ ?_
          clear hK K
          refine done_ (done_of HT_.out (by kernel_rfl)) ?_
          try go_wp2
          have n0_ : Aside0 (Kd.Q Kd.string 9 (((((w85.setCell ⟨gb443,5,none⟩ (.int .i64 t488)).setCell ⟨gb443,6,none⟩ (.int .i64 t489)).setCell ⟨gb443,7,none⟩ (.slice Ao88 t490.length co88)).setCell ⟨gb443,8,none⟩ (.int .i64 t493)).setCell ⟨gb443,9,none⟩ (.slice Ao91 t494.length co91)) w.heap.size (fun k_ => some k_ ≠ (u444004 : Value).ownBlock ∧ some k_ ≠ (.slice Ao83 x444007_4.length co83 : Value).ownBlock ∧ some k_ ≠ (.slice Ao84 x444009_4.length co84 : Value).ownBlock ∧ some k_ ≠ (.slice Ao88 t490.length co88 : Value).ownBlock ∧ some k_ ≠ (.slice Ao91 t494.length co91 : Value).ownBlock) u444002 x444002_4) := ⟨by (with_reducible repeat (first|apply Kd.Q_alloc|apply Kd.Q_drewN|apply Kd.Q_drew)); exact Kd.Q_mono (Kd.Q_far (p := ⟨gb443,9,none⟩) (Kd.Q_far (p := ⟨gb443,8,none⟩) (Kd.Q_far (p := ⟨gb443,7,none⟩) (Kd.Q_far (p := ⟨gb443,6,none⟩) (Kd.Q_far (p := ⟨gb443,5,none⟩) (Kd.Q_types HO_444002.out BK443.out (by decide)) (fun _ h=>h.2) (.int .i64 t488)) (fun _ h=>h.2) (.int .i64 t489)) (fun _ h=>h.2) (.slice Ao88 t490.length co88)) (fun _ h=>h.2) (.int .i64 t493)) (fun _ h=>h.2) (.slice Ao91 t494.length co91)) (fun _ hk => ⟨hk.1.1.1.1,⟨hk.1.1.1.2.1,⟨hk.1.1.1.2.2,⟨hk.1.1.2,hk.1.2⟩⟩⟩⟩)⟩
          have n1_ : Aside0 (Kd.R Kd.string 9 (((((w85.setCell ⟨gb443,5,none⟩ (.int .i64 t488)).setCell ⟨gb443,6,none⟩ (.int .i64 t489)).setCell ⟨gb443,7,none⟩ (.slice Ao88 t490.length co88)).setCell ⟨gb443,8,none⟩ (.int .i64 t493)).setCell ⟨gb443,9,none⟩ (.slice Ao91 t494.length co91)) w.heap.size (fun k_ => some k_ ≠ (u444002 : Value).ownBlock ∧ some k_ ≠ (.slice Ao83 x444007_4.length co83 : Value).ownBlock ∧ some k_ ≠ (.slice Ao84 x444009_4.length co84 : Value).ownBlock ∧ some k_ ≠ (.slice Ao88 t490.length co88 : Value).ownBlock ∧ some k_ ≠ (.slice Ao91 t494.length co91 : Value).ownBlock) u444004 x444004_4) := ⟨by (with_reducible repeat (first|apply Kd.R_alloc|apply Kd.R_drewN|apply Kd.R_drew)); exact Kd.R_mono (Kd.R_far (p := ⟨gb443,9,none⟩) (Kd.R_far (p := ⟨gb443,8,none⟩) (Kd.R_far (p := ⟨gb443,7,none⟩) (Kd.R_far (p := ⟨gb443,6,none⟩) (Kd.R_far (p := ⟨gb443,5,none⟩) (Kd.R_types HO_444004.out BK443.out (by decide)) (fun _ h=>h.2) (.int .i64 t488)) (fun _ h=>h.2) (.int .i64 t489)) (fun _ h=>h.2) (.slice Ao88 t490.length co88)) (fun _ h=>h.2) (.int .i64 t493)) (fun _ h=>h.2) (.slice Ao91 t494.length co91)) (fun _ hk => ⟨hk.1.1.1.1,⟨hk.1.1.1.2.1,⟨hk.1.1.1.2.2,⟨hk.1.1.2,hk.1.2⟩⟩⟩⟩)⟩
          have n2_ : Aside0 (Kd.Q Kd.string 9 (((((w85.setCell ⟨gb443,5,none⟩ (.int .i64 t488)).setCell ⟨gb443,6,none⟩ (.int .i64 t489)).setCell ⟨gb443,7,none⟩ (.slice Ao88 t490.length co88)).setCell ⟨gb443,8,none⟩ (.int .i64 t493)).setCell ⟨gb443,9,none⟩ (.slice Ao91 t494.length co91)) w.heap.size (fun k_ => some k_ ≠ (u444002 : Value).ownBlock ∧ some k_ ≠ (u444004 : Value).ownBlock ∧ some k_ ≠ (.slice Ao84 x444009_4.length co84 : Value).ownBlock ∧ some k_ ≠ (.slice Ao88 t490.length co88 : Value).ownBlock ∧ some k_ ≠ (.slice Ao91 t494.length co91 : Value).ownBlock) (.slice Ao83 x444007_4.length co83) x444007_4) := ⟨by (with_reducible repeat (first|apply Kd.Q_alloc|apply Kd.Q_drewN|apply Kd.Q_drew)); exact Kd.Q_mono (Kd.Q_far (p := ⟨gb443,9,none⟩) (Kd.Q_far (p := ⟨gb443,8,none⟩) (Kd.Q_far (p := ⟨gb443,7,none⟩) (Kd.Q_far (p := ⟨gb443,6,none⟩) (Kd.Q_far (p := ⟨gb443,5,none⟩) (Kd.Q_types HO_444007.out BK443.out (by decide)) (fun _ h=>h.2) (.int .i64 t488)) (fun _ h=>h.2) (.int .i64 t489)) (fun _ h=>h.2) (.slice Ao88 t490.length co88)) (fun _ h=>h.2) (.int .i64 t493)) (fun _ h=>h.2) (.slice Ao91 t494.length co91)) (fun _ hk => ⟨hk.1.1.1.1,⟨hk.1.1.1.2.1,⟨hk.1.1.1.2.2,⟨hk.1.1.2,hk.1.2⟩⟩⟩⟩)⟩
          have n3_ : Aside0 (Kd.R Kd.string 9 (((((w85.setCell ⟨gb443,5,none⟩ (.int .i64 t488)).setCell ⟨gb443,6,none⟩ (.int .i64 t489)).setCell ⟨gb443,7,none⟩ (.slice Ao88 t490.length co88)).setCell ⟨gb443,8,none⟩ (.int .i64 t493)).setCell ⟨gb443,9,none⟩ (.slice Ao91 t494.length co91)) w.heap.size (fun k_ => some k_ ≠ (u444002 : Value).ownBlock ∧ some k_ ≠ (u444004 : Value).ownBlock ∧ some k_ ≠ (.slice Ao83 x444007_4.length co83 : Value).ownBlock ∧ some k_ ≠ (.slice Ao88 t490.length co88 : Value).ownBlock ∧ some k_ ≠ (.slice Ao91 t494.length co91 : Value).ownBlock) (.slice Ao84 x444009_4.length co84) x444009_4) := ⟨by (with_reducible repeat (first|apply Kd.R_alloc|apply Kd.R_drewN|apply Kd.R_drew)); exact Kd.R_mono (Kd.R_far (p := ⟨gb443,9,none⟩) (Kd.R_far (p := ⟨gb443,8,none⟩) (Kd.R_far (p := ⟨gb443,7,none⟩) (Kd.R_far (p := ⟨gb443,6,none⟩) (Kd.R_far (p := ⟨gb443,5,none⟩) (Kd.R_types HO_444009.out BK443.out (by decide)) (fun _ h=>h.2) (.int .i64 t488)) (fun _ h=>h.2) (.int .i64 t489)) (fun _ h=>h.2) (.slice Ao88 t490.length co88)) (fun _ h=>h.2) (.int .i64 t493)) (fun _ h=>h.2) (.slice Ao91 t494.length co91)) (fun _ hk => ⟨hk.1.1.1.1,⟨hk.1.1.1.2.1,⟨hk.1.1.1.2.2,⟨hk.1.1.2,hk.1.2⟩⟩⟩⟩)⟩
          have n4_ : Aside0 (Kd.Q k36 36 (((((w85.setCell ⟨gb443,5,none⟩ (.int .i64 t488)).setCell ⟨gb443,6,none⟩ (.int .i64 t489)).setCell ⟨gb443,7,none⟩ (.slice Ao88 t490.length co88)).setCell ⟨gb443,8,none⟩ (.int .i64 t493)).setCell ⟨gb443,9,none⟩ (.slice Ao91 t494.length co91)) w.heap.size (fun k_ => some k_ ≠ (u444011 : Value).ownBlock ∧ k_ ≠ gb484) (.slice A80 y485.length c80) y485) := ⟨by (with_reducible repeat (first|apply Kd.Q_alloc|apply Kd.Q_drewN|apply Kd.Q_drew)); exact Kd.Q_mono (Kd.Q_far (p := ⟨gb443,9,none⟩) (Kd.Q_far (p := ⟨gb443,8,none⟩) (Kd.Q_far (p := ⟨gb443,7,none⟩) (Kd.Q_far (p := ⟨gb443,6,none⟩) (Kd.Q_far (p := ⟨gb443,5,none⟩) (Kd.Q_types HO487.out BK443.out (by decide)) (fun _ h=>h.2) (.int .i64 t488)) (fun _ h=>h.2) (.int .i64 t489)) (fun _ h=>h.2) (.slice Ao88 t490.length co88)) (fun _ h=>h.2) (.int .i64 t493)) (fun _ h=>h.2) (.slice Ao91 t494.length co91)) (fun _ hk => ⟨hk.1.1,hk.1.2⟩)⟩
          have n5_ : Aside0 (Kd.Q k36 36 (((((w85.setCell ⟨gb443,5,none⟩ (.int .i64 t488)).setCell ⟨gb443,6,none⟩ (.int .i64 t489)).setCell ⟨gb443,7,none⟩ (.slice Ao88 t490.length co88)).setCell ⟨gb443,8,none⟩ (.int .i64 t493)).setCell ⟨gb443,9,none⟩ (.slice Ao91 t494.length co91)) w.heap.size (fun k_ => some k_ ≠ (.slice A80 y485.length c80 : Value).ownBlock ∧ k_ ≠ gb484) u444011 x444011_4) := ⟨by (with_reducible repeat (first|apply Kd.Q_alloc|apply Kd.Q_drewN|apply Kd.Q_drew)); exact Kd.Q_mono (Kd.Q_far (p := ⟨gb443,9,none⟩) (Kd.Q_far (p := ⟨gb443,8,none⟩) (Kd.Q_far (p := ⟨gb443,7,none⟩) (Kd.Q_far (p := ⟨gb443,6,none⟩) (Kd.Q_far (p := ⟨gb443,5,none⟩) (Kd.Q_types HO_444011.out BK443.out (by decide)) (fun _ h=>h.2) (.int .i64 t488)) (fun _ h=>h.2) (.int .i64 t489)) (fun _ h=>h.2) (.slice Ao88 t490.length co88)) (fun _ h=>h.2) (.int .i64 t493)) (fun _ h=>h.2) (.slice Ao91 t494.length co91)) (fun _ hk => ⟨hk.1.1,hk.1.2⟩)⟩
          have n6_ : Aside0 (Kd.Q Kd.string 9 (((((w85.setCell ⟨gb443,5,none⟩ (.int .i64 t488)).setCell ⟨gb443,6,none⟩ (.int .i64 t489)).setCell ⟨gb443,7,none⟩ (.slice Ao88 t490.length co88)).setCell ⟨gb443,8,none⟩ (.int .i64 t493)).setCell ⟨gb443,9,none⟩ (.slice Ao91 t494.length co91)) w.heap.size (fun k_ => some k_ ≠ (u444002 : Value).ownBlock ∧ some k_ ≠ (u444004 : Value).ownBlock ∧ some k_ ≠ (.slice Ao83 x444007_4.length co83 : Value).ownBlock ∧ some k_ ≠ (.slice Ao84 x444009_4.length co84 : Value).ownBlock ∧ some k_ ≠ (.slice Ao91 t494.length co91 : Value).ownBlock) (.slice Ao88 t490.length co88) t490) := ⟨by (with_reducible repeat (first|apply Kd.Q_alloc|apply Kd.Q_drewN|apply Kd.Q_drew)); exact Kd.Q_mono (Kd.Q_far (p := ⟨gb443,9,none⟩) (Kd.Q_far (p := ⟨gb443,8,none⟩) (Kd.Q_far (p := ⟨gb443,7,none⟩) (Kd.Q_far (p := ⟨gb443,6,none⟩) (Kd.Q_far (p := ⟨gb443,5,none⟩) (Kd.Q_types HO492.out BK443.out (by decide)) (fun _ h=>h.2) (.int .i64 t488)) (fun _ h=>h.2) (.int .i64 t489)) (fun _ h=>h.2) (.slice Ao88 t490.length co88)) (fun _ h=>h.2) (.int .i64 t493)) (fun _ h=>h.2) (.slice Ao91 t494.length co91)) (fun _ hk => ⟨hk.1.1.1.1.2,⟨hk.1.1.1.2,⟨hk.1.1.2,⟨hk.1.2,hk.1.1.1.1.1⟩⟩⟩⟩)⟩
          have n7_ : Aside0 (Kd.R Kd.string 9 (((((w85.setCell ⟨gb443,5,none⟩ (.int .i64 t488)).setCell ⟨gb443,6,none⟩ (.int .i64 t489)).setCell ⟨gb443,7,none⟩ (.slice Ao88 t490.length co88)).setCell ⟨gb443,8,none⟩ (.int .i64 t493)).setCell ⟨gb443,9,none⟩ (.slice Ao91 t494.length co91)) w.heap.size (fun k_ => some k_ ≠ (u444002 : Value).ownBlock ∧ some k_ ≠ (u444004 : Value).ownBlock ∧ some k_ ≠ (.slice Ao83 x444007_4.length co83 : Value).ownBlock ∧ some k_ ≠ (.slice Ao84 x444009_4.length co84 : Value).ownBlock ∧ some k_ ≠ (.slice Ao88 t490.length co88 : Value).ownBlock) (.slice Ao91 t494.length co91) t494) := ⟨by (with_reducible repeat (first|apply Kd.R_alloc|apply Kd.R_drewN|apply Kd.R_drew)); exact Kd.R_mono (Kd.R_far (p := ⟨gb443,9,none⟩) (Kd.R_far (p := ⟨gb443,8,none⟩) (Kd.R_far (p := ⟨gb443,7,none⟩) (Kd.R_far (p := ⟨gb443,6,none⟩) (Kd.R_far (p := ⟨gb443,5,none⟩) (Kd.R_types HO496.out BK443.out (by decide)) (fun _ h=>h.2) (.int .i64 t488)) (fun _ h=>h.2) (.int .i64 t489)) (fun _ h=>h.2) (.slice Ao88 t490.length co88)) (fun _ h=>h.2) (.int .i64 t493)) (fun _ h=>h.2) (.slice Ao91 t494.length co91)) (fun _ hk => ⟨hk.1.1.1.1.2,⟨hk.1.1.1.2,⟨hk.1.1.2,⟨hk.1.2,hk.1.1.1.1.1⟩⟩⟩⟩)⟩
          have n8_ : Aside0 ((((((w85.setCell ⟨gb443,5,none⟩ (.int .i64 t488)).setCell ⟨gb443,6,none⟩ (.int .i64 t489)).setCell ⟨gb443,7,none⟩ (.slice Ao88 t490.length co88)).setCell ⟨gb443,8,none⟩ (.int .i64 t493)).setCell ⟨gb443,9,none⟩ (.slice Ao91 t494.length co91)).heap[gb443]? = some (.cells #[.int .i64 x444000_4,.int .i64 x444001_4,u444002,.int .i64 x444003_4,u444004,.int .i64 t488,.int .i64 t489,.slice Ao88 t490.length co88,.int .i64 t493,.slice Ao91 t494.length co91,.slice A80 y485.length c80,u444011] 78 (0,0))) := ⟨by (with_reducible repeat (first|refine blk_drewN ?_ _|refine blk_drew ?_|refine blk_alloc ?_ _)); refine blk_put (cs := #[.int .i64 x444000_4,.int .i64 x444001_4,u444002,.int .i64 x444003_4,u444004,.int .i64 t488,.int .i64 t489,.slice Ao88 t490.length co88,.int .i64 t493,.slice Ao84 x444009_4.length co84,.slice A80 y485.length c80,u444011]) ?_ 9 _ rfl; (with_reducible repeat (first|refine blk_drewN ?_ _|refine blk_drew ?_|refine blk_alloc ?_ _)); refine blk_put (cs := #[.int .i64 x444000_4,.int .i64 x444001_4,u444002,.int .i64 x444003_4,u444004,.int .i64 t488,.int .i64 t489,.slice Ao88 t490.length co88,.int .i64 x444008_4,.slice Ao84 x444009_4.length co84,.slice A80 y485.length c80,u444011]) ?_ 8 _ rfl; (with_reducible repeat (first|refine blk_drewN ?_ _|refine blk_drew ?_|refine blk_alloc ?_ _)); refine blk_put (cs := #[.int .i64 x444000_4,.int .i64 x444001_4,u444002,.int .i64 x444003_4,u444004,.int .i64 t488,.int .i64 t489,.slice Ao83 x444007_4.length co83,.int .i64 x444008_4,.slice Ao84 x444009_4.length co84,.slice A80 y485.length c80,u444011]) ?_ 7 _ rfl; (with_reducible repeat (first|refine blk_drewN ?_ _|refine blk_drew ?_|refine blk_alloc ?_ _)); refine blk_put (cs := #[.int .i64 x444000_4,.int .i64 x444001_4,u444002,.int .i64 x444003_4,u444004,.int .i64 t488,.int .i64 x444006_4,.slice Ao83 x444007_4.length co83,.int .i64 x444008_4,.slice Ao84 x444009_4.length co84,.slice A80 y485.length c80,u444011]) ?_ 6 _ rfl; (with_reducible repeat (first|refine blk_drewN ?_ _|refine blk_drew ?_|refine blk_alloc ?_ _)); refine blk_put (cs := #[.int .i64 x444000_4,.int .i64 x444001_4,u444002,.int .i64 x444003_4,u444004,.int .i64 x444005_4,.int .i64 x444006_4,.slice Ao83 x444007_4.length co83,.int .i64 x444008_4,.slice Ao84 x444009_4.length co84,.slice A80 y485.length c80,u444011]) ?_ 5 _ rfl; (with_reducible repeat (first|refine blk_drewN ?_ _|refine blk_drew ?_|refine blk_alloc ?_ _)); exact BK443.out⟩
          have n9_ : Aside0 ((((((w85.setCell ⟨gb443,5,none⟩ (.int .i64 t488)).setCell ⟨gb443,6,none⟩ (.int .i64 t489)).setCell ⟨gb443,7,none⟩ (.slice Ao88 t490.length co88)).setCell ⟨gb443,8,none⟩ (.int .i64 t493)).setCell ⟨gb443,9,none⟩ (.slice Ao91 t494.length co91)).heap[gb484]? = some (.cells #[.int .i64 ((rd_T36 x444010_4 0).f0),.int .i64 ((rd_T36 x444010_4 0).f1),.string ((rd_T36 x444010_4 0).f2)] 36 (0,0))) := ⟨(bkT BK484.out)⟩
          have n10_ : Aside0 (Below w.heap.size w (((((w85.setCell ⟨gb443,5,none⟩ (.int .i64 t488)).setCell ⟨gb443,6,none⟩ (.int .i64 t489)).setCell ⟨gb443,7,none⟩ (.slice Ao88 t490.length co88)).setCell ⟨gb443,8,none⟩ (.int .i64 t493)).setCell ⟨gb443,9,none⟩ (.slice Ao91 t494.length co91))) := ⟨bT HB⟩
          generalize (((((w85.setCell ⟨gb443,5,none⟩ (.int .i64 t488)).setCell ⟨gb443,6,none⟩ (.int .i64 t489)).setCell ⟨gb443,7,none⟩ (.slice Ao88 t490.length co88)).setCell ⟨gb443,8,none⟩ (.int .i64 t493)).setCell ⟨gb443,9,none⟩ (.slice Ao91 t494.length co91)) = w93 at n0_ n1_ n2_ n3_ n4_ n5_ n6_ n7_ n8_ n9_ n10_ ⊢
          have HO_444002 := n0_
          have HO_444004 := n1_
          have HO_444007 := n2_
          have HO_444009 := n3_
          have HO487 := n4_
          have HO_444011 := n5_
          have HO492 := n6_
          have HO496 := n7_
          have BK443 := n8_
          have BK484 := n9_
          have HB := n10_
          clear n0_ n1_ n2_ n3_ n4_ n5_ n6_ n7_ n8_ n9_ n10_
          have n0_ := Aside0.mk (Kd.Q_drew HO_444002.out)
          have n1_ := Aside0.mk (Kd.R_drew HO_444004.out)
          have n2_ := Aside0.mk (Kd.Q_drew HO_444007.out)
          have n3_ := Aside0.mk (Kd.R_drew HO_444009.out)
          have n4_ := Aside0.mk (Kd.Q_drew HO487.out)
          have n5_ := Aside0.mk (Kd.Q_drew HO_444011.out)
          have n6_ := Aside0.mk (Kd.Q_drew HO492.out)
          have n7_ := Aside0.mk (Kd.R_drew HO496.out)
          have n8_ := Aside0.mk (blk_drew BK443.out)
          have n9_ := Aside0.mk (blk_drew BK484.out)
          have n10_ := Aside0.mk (below_drew1 HB.out)
          clear HO_444002 HO_444004 HO_444007 HO_444009 HO487 HO_444011 HO492 HO496 BK443 BK484 HB
          have HO_444002 := n0_
          have HO_444004 := n1_
          have HO_444007 := n2_
          have HO_444009 := n3_
          have HO487 := n4_
          have HO_444011 := n5_
          have HO492 := n6_
          have HO496 := n7_
          have BK443 := n8_
          have BK484 := n9_
          have HB := n10_
          clear n0_ n1_ n2_ n3_ n4_ n5_ n6_ n7_ n8_ n9_ n10_
          refine start_ (n := 14) (S := fun w' => w'.cell? ⟨gb443,0,none⟩ = some (.int .i64 x444000_4) ∧ w'.cell? ⟨gb443,1,none⟩ = some (.int .i64 x444001_4) ∧ w'.cell? ⟨gb443,2,none⟩ = some (u444002) ∧ w'.cell? ⟨gb443,3,none⟩ = some (.int .i64 x444003_4) ∧ w'.cell? ⟨gb443,4,none⟩ = some (u444004) ∧ w'.cell? ⟨gb443,5,none⟩ = some (.int .i64 t488) ∧ w'.cell? ⟨gb443,6,none⟩ = some (.int .i64 t489) ∧ w'.cell? ⟨gb443,7,none⟩ = some (.slice Ao88 t490.length co88) ∧ w'.cell? ⟨gb443,8,none⟩ = some (.int .i64 t493) ∧ w'.cell? ⟨gb443,9,none⟩ = some (.slice Ao91 t494.length co91) ∧ w'.cell? ⟨gb443,10,none⟩ = some (.slice A80 y485.length c80) ∧ w'.cell? ⟨gb443,11,none⟩ = some (u444011)) (ds := [13]) #[false,false,false,false,false,false,false,false,false,false,false,false,false,false] (by kernel_rfl) rfl rfl ⟨(blk_cell BK443.out 0).trans rfl,(blk_cell BK443.out 1).trans rfl,(blk_cell BK443.out 2).trans rfl,(blk_cell BK443.out 3).trans rfl,(blk_cell BK443.out 4).trans rfl,(blk_cell BK443.out 5).trans rfl,(blk_cell BK443.out 6).trans rfl,(blk_cell BK443.out 7).trans rfl,(blk_cell BK443.out 8).trans rfl,(blk_cell BK443.out 9).trans rfl,(blk_cell BK443.out 10).trans rfl,(blk_cell BK443.out 11).trans rfl⟩ (fun hHeld => ?_); refine with_tabW impl_talk_pick.tab14 impl_talk_pick.bits14 (fun HT_ HW_ => ?_)
          generalize w93.drew = w94 at HO_444002 HO_444004 HO_444007 HO_444009 HO487 HO_444011 HO492 HO496 BK443 BK484 HB hHeld ⊢
          refine pure_ (i := 0) (N := some 89) (v := ?_) (a' := ?_) #[true,false,false,false,false,false,false,false,false,false,false,false,false,false] rfl rfl (any_of HT_.out (by kernel_rfl)) (fun _ _ _ h => h) (Or.inl ⟨by rfl,?_⟩) ?_ ?_; rotate_left
          · intro w'; go_simp; with_reducible rfl
          rotate_left
          · simp only [Act.put,List.setIfInBounds_toArray,List.set_cons_zero,List.set_cons_succ,i64_w,i32_w]; rfl
          refine pure_ (i := 1) (N := some 90) (v := ?_) (a' := ?_) #[true,true,false,false,false,false,false,false,false,false,false,false,false,false] rfl rfl (any_of HT_.out (by kernel_rfl)) (fun _ _ _ h => h) (Or.inl ⟨by rfl,?_⟩) ?_ ?_; rotate_left
          · intro w'; go_simp; with_reducible rfl
          rotate_left
          · simp only [Act.put,List.setIfInBounds_toArray,List.set_cons_zero,List.set_cons_succ,i64_w,i32_w]; rfl
          refine pure_ (i := 2) (N := some 91) (v := ?_) (a' := ?_) #[true,true,true,false,false,false,false,false,false,false,false,false,false,false] rfl rfl (any_of HT_.out (by kernel_rfl)) (fun _ _ _ h => h) (Or.inl ⟨by rfl,?_⟩) ?_ ?_; rotate_left
          · intro w'; go_simp; with_reducible rfl
          rotate_left
          · simp only [Act.put,List.setIfInBounds_toArray,List.set_cons_zero,List.set_cons_succ,i64_w,i32_w]; rfl
          refine pure_ (i := 3) (N := some 92) (v := ?_) (a' := ?_) #[true,true,true,true,false,false,false,false,false,false,false,false,false,false] rfl rfl (any_of HT_.out (by kernel_rfl)) (fun _ _ _ h => h) (Or.inl ⟨by rfl,?_⟩) ?_ ?_; rotate_left
          · intro w'; go_simp; with_reducible rfl
          rotate_left
          · simp only [Act.put,List.setIfInBounds_toArray,List.set_cons_zero,List.set_cons_succ,i64_w,i32_w]; rfl
          refine pure_ (i := 5) (N := some 94) (v := ?_) (a' := ?_) #[true,true,true,true,false,true,false,false,false,false,false,false,false,false] rfl rfl (any_of HT_.out (by kernel_rfl)) (fun _ _ _ h => h) (Or.inl ⟨by rfl,?_⟩) ?_ ?_; rotate_left
          · intro w'; go_simp; with_reducible rfl
          rotate_left
          · simp only [Act.put,List.setIfInBounds_toArray,List.set_cons_zero,List.set_cons_succ,i64_w,i32_w]; rfl
          refine pure_ (i := 6) (N := some 95) (v := ?_) (a' := ?_) #[true,true,true,true,false,true,true,false,false,false,false,false,false,false] rfl rfl (any_of HT_.out (by kernel_rfl)) (fun _ _ _ h => h) (Or.inl ⟨by rfl,?_⟩) ?_ ?_; rotate_left
          · intro w'; go_simp; with_reducible rfl
          rotate_left
          · simp only [Act.put,List.setIfInBounds_toArray,List.set_cons_zero,List.set_cons_succ,i64_w,i32_w]; rfl
          refine pure_ (i := 7) (N := some 96) (v := ?_) (a' := ?_) #[true,true,true,true,false,true,true,true,false,false,false,false,false,false] rfl rfl (any_of HT_.out (by kernel_rfl)) (fun _ _ _ h => h) (Or.inl ⟨by rfl,?_⟩) ?_ ?_; rotate_left
          · intro w'; go_simp; with_reducible rfl
          rotate_left
          · simp only [Act.put,List.setIfInBounds_toArray,List.set_cons_zero,List.set_cons_succ,i64_w,i32_w]; rfl
          refine take_ (i := 4) (N := some 93) (v := ?_) (a' := ?_) #[true,true,true,true,true,true,true,true,false,false,false,false,false,false] rfl rfl (take_ofW HT_.out HW_.out (by kernel_rfl)) (fun _ _ _ h => h) (Or.inl ⟨by rfl,?_⟩) hHeld ?_ ?_; rotate_left
          ·
           rintro w' ⟨s0,s1,s2,s3,s4,s5,s6,s7,s8,s9,s10,s11⟩
           go_simp; with_reducible rfl
          rotate_left
          · simp only [Act.put,List.setIfInBounds_toArray,List.set_cons_zero,List.set_cons_succ,i64_w,i32_w]; rfl
          refine take_ (i := 8) (N := some 97) (v := ?_) (a' := ?_) #[true,true,true,true,true,true,true,true,true,false,false,false,false,false] rfl rfl (take_ofW HT_.out HW_.out (by kernel_rfl)) (fun _ _ _ h => h) (Or.inl ⟨by rfl,?_⟩) hHeld ?_ ?_; rotate_left
          ·
           rintro w' ⟨s0,s1,s2,s3,s4,s5,s6,s7,s8,s9,s10,s11⟩
           go_simp; with_reducible rfl
          rotate_left
          · simp only [Act.put,List.setIfInBounds_toArray,List.set_cons_zero,List.set_cons_succ,i64_w,i32_w]; rfl
          refine one_ (i := 9) (N := some 98) #[true,true,true,true,true,true,true,true,true,true,false,false,false,false] rfl rfl (one_of HT_.out (by kernel_rfl)) (by decide) (fun K hK => ?_)
          refine goes_ Try.func27 (by kernel_rfl) rfl #[.agg #[.int .i64 t488,.int .i64 t489,.slice Ao88 t490.length co88,.int .i64 t493,.slice Ao91 t494.length co91]] (by rfl) rfl rfl (by (try simp only [List.map_toArray,List.map_cons,List.map_nil]); first | done|rfl|(simp only [List.length_drop,List.length_take]; rfl)) ?_
          with_reducible refine (impl_SendAgain.calls k4 t488 t489 _ _ t490 t493 _ _ t494 t498 _ ?side1 ?side2 ?side3 ?side4 A71.out).mono ?_
          (case side1 => exact ccT ((Kd.Q_reads' HO492.out).2.2))
          (case side2 => exact (Kd.Q_reads' HO492.out).2.1)
          (case side3 => exact ccT ((Kd.R_reads' HO496.out).2.2))
          (case side4 => exact (Kd.R_reads' HO496.out).2.1)
          rintro e w95 ⟨v499,rfl,ho0,hb⟩
          refine ⟨_,rfl,?_⟩
          have n0_ := Aside0.mk (Kd.Q_below (rrQ HO_444002.out) hb)
          have n1_ := Aside0.mk (Kd.R_below (rrAT HO_444004.out) hb)
          have n2_ := Aside0.mk (Kd.Q_below (rrQ HO_444007.out) hb)
          have n3_ := Aside0.mk (Kd.R_below (rrAT HO_444009.out) hb)
          have n4_ := Aside0.mk (Kd.Q_elder' (rrQ HO487.out) (Kd.R_base ho0) hb)
          have n5_ := Aside0.mk (Kd.Q_elder' (rrQ HO_444011.out) (Kd.R_base ho0) hb)
          have n6_ := Aside0.mk (Kd.Q_below (rrQ HO492.out) hb)
          have n7_ := Aside0.mk (Kd.R_below (rrAT HO496.out) hb)
          have n8_ := Aside0.mk (Kd.R_lower (Kd.R_newB (Kd.R_new' (Kd.R_new' ho0 (Kd.Q_lt (rrQ HO487.out))) (Kd.Q_lt (rrQ HO_444011.out))) (g := gb484) (o := .cells #[.int .i64 ((rd_T36 x444010_4 0).f0),.int .i64 ((rd_T36 x444010_4 0).f1),.string ((rd_T36 x444010_4 0).f2)] 36 (0,0)) (bkT BK484.out)) (below_size (bT HB)))
          have n9_ := Aside0.mk (blk_below (bkT BK443.out) hb)
          have n10_ := Aside0.mk (blk_below (bkT BK484.out) hb)
          have n11_ := Aside0.mk (below_step (bT HB) hb)
          clear HO_444002 HO_444004 HO_444007 HO_444009 HO487 HO_444011 HO492 HO496 BK443 BK484 HB
          have HO_444002 := n0_
          have HO_444004 := n1_
          have HO_444007 := n2_
          have HO_444009 := n3_
          have HO487 := n4_
          have HO_444011 := n5_
          have HO492 := n6_
          have HO496 := n7_
          have HO500 := n8_
          have BK443 := n9_
          have BK484 := n10_
          have HB := n11_
          clear n0_ n1_ n2_ n3_ n4_ n5_ n6_ n7_ n8_ n9_ n10_ n11_
          obtain ⟨Ao97,co97,eo97⟩ := Kd.R_slice HO500.out
          (first | subst eo97 | (injection eo97 with f1_ f2_ f3_; have f4_ := f1_.symm; have f5_ := f3_.symm; clear f1_ f2_ f3_; subst f4_; subst f5_))
          refine hK.out _ _ ⟨(blk_cell BK443.out 0).trans rfl,(blk_cell BK443.out 1).trans rfl,(blk_cell BK443.out 2).trans rfl,(blk_cell BK443.out 3).trans rfl,(blk_cell BK443.out 4).trans rfl,(blk_cell BK443.out 5).trans rfl,(blk_cell BK443.out 6).trans rfl,(blk_cell BK443.out 7).trans rfl,(blk_cell BK443.out 8).trans rfl,(blk_cell BK443.out 9).trans rfl,(blk_cell BK443.out 10).trans rfl,(blk_cell BK443.out 11).trans rfl⟩ (fun hHeld => ?_)
          clear hK K
          refine norm_ (a' := ?_) ?_ ?_
          rotate_left
          ·
           show Act.put _ (some 98) _ = _
           simp only [Act.put,List.setIfInBounds_toArray,List.set_cons_zero,List.set_cons_succ,i64_w,i32_w]; rfl
          refine one_ (i := 10) (N := some 99) #[true,true,true,true,true,true,true,true,true,true,true,false,false,false] rfl rfl (one_of HT_.out (by kernel_rfl)) (by decide) (fun K hK => ?_)
          refine Kd.Q_append_rows_step k36 (w0 := w) w.heap.size (by rfl) (.tmp 93) (.tmp 98) 45 36 (.agg #[(.int .i64 0),(.int .i64 0),(.string ⟨#[]⟩)]) 32 rfl Try.underlying45 info36 rfl (by decide) (by omega) u444011 x444011_4 t498 _ _ _ (fun k_ => some k_ ≠ (.slice A80 y485.length c80 : Value).ownBlock ∧ some k_ ≠ (.slice Ao97 t498.length co97 : Value).ownBlock ∧ k_ ≠ gb484) (fun _ => False) rfl rfl ?aO ?aR (fun _ _ h => h) (fun _ h => h.elim) ?aF ?aB ?aS ?aL ?_
          (case aR => exact ccT ((Kd.R_reads' HO500.out).2.2))
          (case aB => exact (bT HB))
          (case aF => exact (fun k_ hk => ⟨Kd.fresh' (Kd.Q_lt (rrQ HO487.out)) k_ hk,Kd.fresh' (Kd.R_lt (rrAT HO500.out)) k_ hk,Kd.freshB (g := gb484) (o := .cells #[.int .i64 ((rd_T36 x444010_4 0).f0),.int .i64 ((rd_T36 x444010_4 0).f1),.string ((rd_T36 x444010_4 0).f2)] 36 (0,0)) (bkT BK484.out) k_ hk⟩))
          (case aO => exact (by (with_reducible repeat (first|apply Kd.Q_alloc|apply Kd.Q_drewN|apply Kd.Q_drew)); exact Kd.Q_mono HO_444011.out (fun _ hk => ⟨hk.1.1,⟨hk.2,hk.1.2⟩⟩)))
          (case aS => exact (below_size (bT HB)))
          (case aL => have := LMc72.out; omega)
          intro v502 w96 ho hb hg hat
          rw [← Ny501.out] at ho
          have n0_ := Aside0.mk (Kd.Q_over' (rrQ HO_444002.out) (Kd.Q_typed (rrQ HO_444011.out)) (by decide) hg)
          have n1_ := Aside0.mk (Kd.R_over' (rrAT HO_444004.out) (Kd.Q_typed (rrQ HO_444011.out)) (by decide) hg)
          have n2_ := Aside0.mk (Kd.Q_over' (rrQ HO_444007.out) (Kd.Q_typed (rrQ HO_444011.out)) (by decide) hg)
          have n3_ := Aside0.mk (Kd.R_over' (rrAT HO_444009.out) (Kd.Q_typed (rrQ HO_444011.out)) (by decide) hg)
          have n4_ := Aside0.mk (Kd.Q_after (ok := (fun k_ => some k_ ≠ (.slice Ao97 t498.length co97 : Value).ownBlock ∧ k_ ≠ gb484)) (by (with_reducible repeat (first|apply Kd.Q_alloc|apply Kd.Q_drewN|apply Kd.Q_drew)); exact Kd.Q_mono HO487.out (fun _ hk => ⟨⟨hk.2,hk.1.2⟩,hk.1.1⟩)) hg hat)
          have n5_ := Aside0.mk (blk_grown (bkT BK443.out) hg (Kd.Q_ne HO_444011.out BK443.out (by decide)))
          have n6_ := Aside0.mk (blk_grown (bkT BK484.out) hg (Kd.Q_away HO_444011.out (fun _ hk => hk.1.2)))
          have n7_ := Aside0.mk (Kd.Q_over' (rrQ HO492.out) (Kd.Q_typed (rrQ HO_444011.out)) (by decide) hg)
          have n8_ := Aside0.mk (Kd.R_over' (rrAT HO496.out) (Kd.Q_typed (rrQ HO_444011.out)) (by decide) hg)
          have n9_ := Aside0.mk (Kd.R_after (ok := (fun k_ => some k_ ≠ (.slice A80 y485.length c80 : Value).ownBlock ∧ k_ ≠ gb484)) (by (with_reducible repeat (first|apply Kd.R_alloc|apply Kd.R_drewN|apply Kd.R_drew)); exact Kd.R_mono HO500.out (fun _ hk => ⟨⟨hk.1.1.2,hk.2⟩,hk.1.2⟩)) hg hat)
          have n10_ := Aside0.mk (hb)
          have n11_ := Aside0.mk (ho)
          clear HO_444002 HO_444004 HO_444007 HO_444009 HO487 BK443 BK484 HO492 HO496 HO500 HB HO_444011
          have HO_444002 := n0_
          have HO_444004 := n1_
          have HO_444007 := n2_
          have HO_444009 := n3_
          have HO487 := n4_
          have BK443 := n5_
          have BK484 := n6_
          have HO492 := n7_
          have HO496 := n8_
          have HO500 := n9_
          have HB := n10_
          have HO503 := n11_
          clear n0_ n1_ n2_ n3_ n4_ n5_ n6_ n7_ n8_ n9_ n10_ n11_ ho hb hg hat
          obtain ⟨Ao98,co98,eo98,_⟩ := Kd.Q_slice HO503.out
          (first | subst eo98 | (injection eo98 with f1_ f2_ f3_; have f4_ := f1_.symm; have f5_ := f3_.symm; clear f1_ f2_ f3_; subst f4_; subst f5_))
          refine hK.out _ _ ⟨(blk_cell BK443.out 0).trans rfl,(blk_cell BK443.out 1).trans rfl,(blk_cell BK443.out 2).trans rfl,(blk_cell BK443.out 3).trans rfl,(blk_cell BK443.out 4).trans rfl,(blk_cell BK443.out 5).trans rfl,(blk_cell BK443.out 6).trans rfl,(blk_cell BK443.out 7).trans rfl,(blk_cell BK443.out 8).trans rfl,(blk_cell BK443.out 9).trans rfl,(blk_cell BK443.out 10).trans rfl,(blk_cell BK443.out 11).trans rfl⟩ (fun hHeld => ?_)
          clear hK K
          refine norm_ (a' := ?_) ?_ ?_
          rotate_left
          ·
           show Act.put _ (some 99) _ = _
           simp only [Act.put,List.setIfInBounds_toArray,List.set_cons_zero,List.set_cons_succ,i64_w,i32_w]; rfl
          refine pure_ (i := 11) (N := some 100) (v := ?_) (a' := ?_) #[true,true,true,true,true,true,true,true,true,true,true,true,false,false] rfl rfl (any_of HT_.out (by kernel_rfl)) (fun _ _ _ h => h) (Or.inl ⟨by rfl,?_⟩) ?_ ?_; rotate_left
          · intro w'; go_simp; with_reducible rfl
          rotate_left
          · simp only [Act.put,List.setIfInBounds_toArray,List.set_cons_zero,List.set_cons_succ,i64_w,i32_w]; rfl
          refine pure_ (i := 12) (N := some 101) (v := ?_) (a' := ?_) #[true,true,true,true,true,true,true,true,true,true,true,true,true,false] rfl rfl (any_of HT_.out (by kernel_rfl)) (fun _ _ _ h => h) (Or.inl ⟨by rfl,?_⟩) ?_ ?_; rotate_left
          · intro w'; go_simp; with_reducible rfl
          rotate_left
          · simp only [Act.put,List.setIfInBounds_toArray,List.set_cons_zero,List.set_cons_succ,i64_w,i32_w]; rfl
          refine last_ (i := 13) (N := none) #[true,true,true,true,true,true,true,true,true,true,true,true,true,true] rfl rfl (one_of HT_.out (by kernel_rfl)) (by decide) (fun K hK => ?_)
          have hs99 : w96.cell? ⟨gb443,11,none⟩ = some (u444011) := (blk_cell BK443.out 11).trans rfl
          have hfs99 := blk_frozen BK443.out 11
          have hns99_1 := NB484_443.out
          have hms99_1 := NB443_484.out
          refine skip_ (w1 := ?_) (by rfl) rfl ?_ ?_
          rotate_left
          · go_simp; rfl
          refine hK.out _ _ ?_
          clear hK K
          refine done_ (done_of HT_.out (by kernel_rfl)) ?_
          try go_wp2
          have H := H'.out
          clear H'
          simp only [Option.some.injEq,Prod.mk.injEq] at H
          obtain ⟨rfl,rfl,rfl,rfl,rfl,rfl,rfl,rfl,rfl,rfl,rfl,rfl⟩ := H
          (try simp only [Exit.inBlock, Exit.then])
          (first | (refine bodyPost_ret (results_none rfl _ _ _) rfl ?_) | (refine bodyPost_end (results_none rfl _ _ _) rfl ?_))
          exact ⟨(u444002),(u444004),(.slice Ao88 t490.length co88),(.slice Ao91 t494.length co91),(.slice A80 y485.length c80),(.slice Ao98 y501.length co98),rfl,⟨by (with_reducible repeat (first|apply Kd.Q_alloc|apply Kd.Q_drewN|apply Kd.Q_drew)); exact Kd.Q_mono (Kd.Q_far (p := ⟨gb443,11,none⟩) (Kd.Q_types HO_444002.out BK443.out (by decide)) (fun _ h=>h.2) (.slice Ao98 y501.length co98)) (fun _ hk => ⟨hk.1.1,⟨hk.1.2.2.2.1,hk.1.2.2.2.2⟩⟩)⟩,⟨by (with_reducible repeat (first|apply Kd.R_alloc|apply Kd.R_drewN|apply Kd.R_drew)); exact Kd.R_mono (Kd.R_far (p := ⟨gb443,11,none⟩) (Kd.R_types HO_444004.out BK443.out (by decide)) (fun _ h=>h.2) (.slice Ao98 y501.length co98)) (fun _ hk => ⟨hk.1.1,⟨hk.1.2.2.2.1,hk.1.2.2.2.2⟩⟩)⟩,⟨by (with_reducible repeat (first|apply Kd.Q_alloc|apply Kd.Q_drewN|apply Kd.Q_drew)); exact Kd.Q_mono (Kd.Q_far (p := ⟨gb443,11,none⟩) (Kd.Q_types HO492.out BK443.out (by decide)) (fun _ h=>h.2) (.slice Ao98 y501.length co98)) (fun _ hk => ⟨hk.1.1,⟨hk.1.2.1,hk.1.2.2.2.2⟩⟩)⟩,⟨by (with_reducible repeat (first|apply Kd.R_alloc|apply Kd.R_drewN|apply Kd.R_drew)); exact Kd.R_mono (Kd.R_far (p := ⟨gb443,11,none⟩) (Kd.R_types HO496.out BK443.out (by decide)) (fun _ h=>h.2) (.slice Ao98 y501.length co98)) (fun _ hk => ⟨hk.1.1,⟨hk.1.2.1,hk.1.2.2.2.2⟩⟩)⟩,⟨by (with_reducible repeat (first|apply Kd.Q_alloc|apply Kd.Q_drewN|apply Kd.Q_drew)); exact Kd.Q_mono (Kd.Q_far (p := ⟨gb443,11,none⟩) (Kd.Q_types HO487.out BK443.out (by decide)) (fun _ h=>h.2) (.slice Ao98 y501.length co98)) (fun _ hk => hk.1.2)⟩,⟨by (with_reducible repeat (first|apply Kd.Q_alloc|apply Kd.Q_drewN|apply Kd.Q_drew)); exact Kd.Q_mono (Kd.Q_far (p := ⟨gb443,11,none⟩) (Kd.Q_types HO503.out BK443.out (by decide)) (fun _ h=>h.2) (.slice Ao98 y501.length co98)) (fun _ hk => hk.1.1)⟩,⟨by (with_reducible repeat (first|refine blk_drewN ?_ _|refine blk_drew ?_|refine blk_alloc ?_ _)); refine blk_put (cs := #[.int .i64 x444000_4,.int .i64 x444001_4,u444002,.int .i64 x444003_4,u444004,.int .i64 t488,.int .i64 t489,.slice Ao88 t490.length co88,.int .i64 t493,.slice Ao91 t494.length co91,.slice A80 y485.length c80,u444011]) ?_ 11 _ rfl; (with_reducible repeat (first|refine blk_drewN ?_ _|refine blk_drew ?_|refine blk_alloc ?_ _)); exact BK443.out⟩,⟨bT HB⟩⟩
         ·
          rw [if_neg c72] at H
          exact absurd H (by simp)
       ·
        rw [if_neg c60] at H
        exact absurd H (by simp)
      ·
       rw [if_neg c59] at H
       exact absurd H (by simp)
    ·
     rw [if_neg c55] at H
     have c55b0 : ((Int.tmod n 4) == 2) = false := beq_eq_false_iff_ne.mpr c55
     have c55b1 : ((Int.tmod n 4) != 2) = true := bne_iff_ne.mpr c55
     by_cases c100 : (Int.tmod n 4) = 3
     ·
      rw [if_pos c100] at H
      have c100b0 : ((Int.tmod n 4) == 3) = true := beq_iff_eq.mpr c100
      have c100b1 : ((Int.tmod n 4) != 3) = false := bne_eq_false_iff_eq.mpr c100
      clear c100
      by_cases c101 : (x444011_4.length : Int) = 0
      ·
       rw [if_pos c101] at H
       have c101b0 : ((x444011_4.length : Int) == 0) = true := beq_iff_eq.mpr c101
       have c101b1 : ((x444011_4.length : Int) != 0) = false := bne_eq_false_iff_eq.mpr c101
       clear c101
       have H' := Aside0.mk H
       clear H
       obtain ⟨_,_,_,_,_,_,_,_,_,_,_,_,_,_,_,_,_,_,_,_,_,_,_,_⟩ := cz12 BK443.out
       obtain ⟨Ao103,co103,eo103,_⟩ := Kd.Q_slice HO_444011.out
       subst eo103
       go_wp2
       have H := H'.out
       clear H'
       simp only [Option.some.injEq,Prod.mk.injEq] at H
       obtain ⟨rfl,rfl,rfl,rfl,rfl,rfl,rfl,rfl,rfl,rfl,rfl,rfl⟩ := H
       (try simp only [Exit.inBlock, Exit.then])
       (first | (refine bodyPost_ret (results_none rfl _ _ _) rfl ?_) | (refine bodyPost_end (results_none rfl _ _ _) rfl ?_))
       exact ⟨(u444002),(u444004),(u444007),(u444009),(u444010),(.slice Ao103 x444011_4.length co103),rfl,⟨(rrQ HO_444002.out)⟩,⟨(rrAT HO_444004.out)⟩,⟨(rrQ HO_444007.out)⟩,⟨(rrAT HO_444009.out)⟩,⟨(rrQ HO_444010.out)⟩,⟨(rrQ HO_444011.out)⟩,⟨(bkT BK443.out)⟩,⟨bT HB⟩⟩
      ·
       rw [if_neg c101] at H
       have c101b0 : ((x444011_4.length : Int) == 0) = false := beq_eq_false_iff_ne.mpr c101
       have c101b1 : ((x444011_4.length : Int) != 0) = true := bne_iff_ne.mpr c101
       have c101b2 : ¬ (x444011_4 = []) := fun h_ => c101 (by rw [h_]; rfl)
       by_cases c104 : 0 < (x444011_4.length : Int)
       ·
        rw [if_pos c104] at H
        have c104b0 : decide (0 < (x444011_4.length : Int)) = true := decide_eq_true c104
        have c104b1 : decide (0 < x444011_4.length) = true := decide_eq_true (by omega)
        clear c104
        by_cases c105 : 1 ≤ (x444011_4.length : Int)
        ·
         rw [if_pos c105] at H
         have c105b0 := eq_true c105
         have c105b1 : decide (1 ≤ (x444011_4.length : Int)) = true := decide_eq_true c105
         clear c105
         obtain ⟨y506,hy506⟩ : ∃ y_ : List (S36),y_ = (x444011_4.drop (1 : Int).toNat) := ⟨_,rfl⟩
         replace H : (if ((Int.tmod (wrap64 (Int.tdiv n 4)) 2) = 1) then (some (x444000_4,x444001_4,x444002_4,x444003_4,x444004_4,x444005_4,x444006_4,x444007_4,x444008_4,x444009_4,x444010_4,y506)) else ((impl_Receive.f k4 x444000_4 x444001_4 x444002_4 x444003_4 x444004_4 ((rd_T36 x444011_4 0).f0) ((rd_T36 x444011_4 0).f1) ((rd_T36 x444011_4 0).f2)).bind fun bt509 => (some (bt509.1,bt509.2.1,bt509.2.2.1,bt509.2.2.2.1,bt509.2.2.2.2.1,x444005_4,x444006_4,x444007_4,x444008_4,x444009_4,x444010_4,y506)))) = some (r0,r1,r2,r3,r4,r5,r6,r7,r8,r9,r10,r11) := by first | (rw [hy506]; with_reducible exact H) | (have H2_ := (Option.bind_some _ _).symm.trans H; rw [hy506]; with_reducible exact H2_) | (have H2_ := (Option.bind_some _ _).symm.trans H; with_reducible exact H2_)|with_reducible exact H | (rw [hy506]; exact H)|exact H
         have Ny506 := Aside0.mk hy506
         clear hy506
         by_cases c106 : ((Int.tmod (wrap64 (Int.tdiv n 4)) 2) = 1)
         ·
          rw [if_pos c106] at H
          have c106b0 : ((Int.tmod (wrap64 (Int.tdiv n 4)) 2) == 1) = true := beq_iff_eq.mpr c106
          have c106b1 : ((Int.tmod (wrap64 (Int.tdiv n 4)) 2) != 1) = false := bne_eq_false_iff_eq.mpr c106
          clear c106
          have H' := Aside0.mk H
          clear H
          obtain ⟨_,_,_,_,_,_,_,_,_,_,_,_,_,_,_,_,_,_,_,_,_,_,_,_⟩ := cz12 BK443.out
          obtain ⟨Ao108,co108,eo108,_⟩ := Kd.Q_slice HO_444011.out
          subst eo108
          have p504 : 0 ≤ (0 : Int) := (by omega)
          have q504 : 0 < (x444011_4.length : Int) := of_decide_eq_true (by first|(with_reducible assumption) | assumption)
          obtain ⟨ad504,e504,hx504_0,hx504_1,hx504_2⟩ := at_T36 (Kd.Q_reads' HO_444011.out).2.2 0 p504 q504
          cases e504
          have qi504 : (0 < x444011_4.length) = True := eq_true (by omega)
          (try rw [show ((0 : Int)).toNat = 0 from rfl] at hx504_0)
          (try rw [show 0 * 3 = 0 from rfl] at hx504_0)
          (try rw [Addr.add_zero'] at hx504_0)
          (try rw [show ((0 : Int)).toNat = 0 from rfl] at hx504_1)
          (try rw [show 0 * 3 = 0 from rfl] at hx504_1)
          (try rw [Addr.add_zero'] at hx504_1)
          (try rw [show ((0 : Int)).toNat = 0 from rfl] at hx504_2)
          (try rw [show 0 * 3 = 0 from rfl] at hx504_2)
          (try rw [Addr.add_zero'] at hx504_2)
          replace p504 := eq_true p504
          replace q504 := eq_true q504
          go_wp2_with (first | ((with_reducible refine gate_dst (N := 8) rfl ?_); (try (refine gate_guard (by rfl) ?_; dsimp only)); refine box_event ?hg (N := 8) ?hd (cs := #[.int .i64 0,.int .i64 0,.string (⟨#[]⟩ : ByteArray)]) (t := 36) ?hr ?_; (case hd => rfl); (case hg => rfl); (case hr => first | (go_simp; done) | (go_simp; rfl)); intro gb505 hg w109 hbox hb; have n0_ := Aside0.mk (Kd.Q_below (rrQ HO_444002.out) hb); have n1_ := Aside0.mk (Kd.R_below (rrAT HO_444004.out) hb); have n2_ := Aside0.mk (Kd.Q_below (rrQ HO_444007.out) hb); have n3_ := Aside0.mk (Kd.R_below (rrAT HO_444009.out) hb); have n4_ := Aside0.mk (Kd.Q_below (Kd.Q_elderB (rrQ HO_444010.out) gb505 (Nat.le_of_eq hg.symm)) hb); have n5_ := Aside0.mk (Kd.Q_below (Kd.Q_elderB (rrQ HO_444011.out) gb505 (Nat.le_of_eq hg.symm)) hb); have n6_ := Aside0.mk (blk_below (bkT BK443.out) hb); have n7_ := Aside0.mk (below_step (bT HB) hb); have n8_ := Aside0.mk (hbox); have n9_ := Aside0.mk ((by rw [hg]; exact (below_size (bT HB)) : w.heap.size ≤ gb505)); have n10_ := Aside0.mk ((by rw [hg]; exact (below_size (bT HB)) : w.heap.size ≤ gb505)); have n11_ := Aside0.mk ((by rw [hg]; exact Nat.ne_of_lt (blk_lt (g := gb443) (o := .cells #[.int .i64 x444000_4,.int .i64 x444001_4,u444002,.int .i64 x444003_4,u444004,.int .i64 x444005_4,.int .i64 x444006_4,u444007,.int .i64 x444008_4,u444009,u444010,.slice (some ad504) x444011_4.length co108] 78 (0,0)) (bkT BK443.out)) : gb443 ≠ gb505)); have n12_ := Aside0.mk ((by rw [hg]; exact Nat.ne_of_gt (blk_lt (g := gb443) (o := .cells #[.int .i64 x444000_4,.int .i64 x444001_4,u444002,.int .i64 x444003_4,u444004,.int .i64 x444005_4,.int .i64 x444006_4,u444007,.int .i64 x444008_4,u444009,u444010,.slice (some ad504) x444011_4.length co108] 78 (0,0)) (bkT BK443.out)) : gb505 ≠ gb443)); clear HO_444002 HO_444004 HO_444007 HO_444009 HO_444010 HO_444011 BK443 HB; have HO_444002 := n0_; have HO_444004 := n1_; have HO_444007 := n2_; have HO_444009 := n3_; have HO_444010 := n4_; have HO_444011 := n5_; have BK443 := n6_; have HB := n7_; have BK505 := n8_; have GW505 := n9_; have GE505 := n10_; have NB443_505 := n11_; have NB505_443 := n12_; clear n0_ n1_ n2_ n3_ n4_ n5_ n6_ n7_ n8_ n9_ n10_ n11_ n12_ hb hbox hg; have hnb110 := NB505_443.out; have hnc110 := NB443_505.out; obtain ⟨_,_,_,_,_,_⟩ := cz3 BK505.out) | ((with_reducible refine gate_store (t := 36) (p := 8) rfl ?_); refine store_event (t := 36) (p := 8) (v := ?vo_w112) (w1 := (((w109.setCell ⟨gb505,0,none⟩ (.int .i64 ((rd_T36 x444011_4 0).f0))).setCell ⟨gb505,1,none⟩ (.int .i64 ((rd_T36 x444011_4 0).f1))).setCell ⟨gb505,2,none⟩ (.string ((rd_T36 x444011_4 0).f2)))) ?hg ?ho ?hn ?hr ?_; (case ho => rfl); (case hg => rfl); (case hn => rfl); (case hr => first | (go_simp; done) | (go_simp; rfl)); intro w112 hw; have n0_ : Aside0 (Kd.Q Kd.string 9 w112 w.heap.size (fun k_ => some k_ ≠ (u444004 : Value).ownBlock ∧ some k_ ≠ (u444007 : Value).ownBlock ∧ some k_ ≠ (u444009 : Value).ownBlock) u444002 x444002_4) := ⟨(by rw [hw]; exact (by (with_reducible repeat (first|apply Kd.Q_alloc|apply Kd.Q_drewN|apply Kd.Q_drew)); exact Kd.Q_mono (Kd.Q_far (p := ⟨gb505,2,none⟩) (Kd.Q_far (p := ⟨gb505,1,none⟩) (Kd.Q_far (p := ⟨gb505,0,none⟩) (Kd.Q_types HO_444002.out BK505.out (by decide)) (fun _ h=>h.2) (.int .i64 ((rd_T36 x444011_4 0).f0))) (fun _ h=>h.2) (.int .i64 ((rd_T36 x444011_4 0).f1))) (fun _ h=>h.2) (.string ((rd_T36 x444011_4 0).f2))) (fun _ hk => ⟨hk.1.1,⟨hk.1.2.1,hk.1.2.2⟩⟩)))⟩; have n1_ : Aside0 (Kd.R Kd.string 9 w112 w.heap.size (fun k_ => some k_ ≠ (u444002 : Value).ownBlock ∧ some k_ ≠ (u444007 : Value).ownBlock ∧ some k_ ≠ (u444009 : Value).ownBlock) u444004 x444004_4) := ⟨(by rw [hw]; exact (by (with_reducible repeat (first|apply Kd.R_alloc|apply Kd.R_drewN|apply Kd.R_drew)); exact Kd.R_mono (Kd.R_far (p := ⟨gb505,2,none⟩) (Kd.R_far (p := ⟨gb505,1,none⟩) (Kd.R_far (p := ⟨gb505,0,none⟩) (Kd.R_types HO_444004.out BK505.out (by decide)) (fun _ h=>h.2) (.int .i64 ((rd_T36 x444011_4 0).f0))) (fun _ h=>h.2) (.int .i64 ((rd_T36 x444011_4 0).f1))) (fun _ h=>h.2) (.string ((rd_T36 x444011_4 0).f2))) (fun _ hk => ⟨hk.1.1,⟨hk.1.2.1,hk.1.2.2⟩⟩)))⟩; have n2_ : Aside0 (Kd.Q Kd.string 9 w112 w.heap.size (fun k_ => some k_ ≠ (u444002 : Value).ownBlock ∧ some k_ ≠ (u444004 : Value).ownBlock ∧ some k_ ≠ (u444009 : Value).ownBlock) u444007 x444007_4) := ⟨(by rw [hw]; exact (by (with_reducible repeat (first|apply Kd.Q_alloc|apply Kd.Q_drewN|apply Kd.Q_drew)); exact Kd.Q_mono (Kd.Q_far (p := ⟨gb505,2,none⟩) (Kd.Q_far (p := ⟨gb505,1,none⟩) (Kd.Q_far (p := ⟨gb505,0,none⟩) (Kd.Q_types HO_444007.out BK505.out (by decide)) (fun _ h=>h.2) (.int .i64 ((rd_T36 x444011_4 0).f0))) (fun _ h=>h.2) (.int .i64 ((rd_T36 x444011_4 0).f1))) (fun _ h=>h.2) (.string ((rd_T36 x444011_4 0).f2))) (fun _ hk => ⟨hk.1.1,⟨hk.1.2.1,hk.1.2.2⟩⟩)))⟩; have n3_ : Aside0 (Kd.R Kd.string 9 w112 w.heap.size (fun k_ => some k_ ≠ (u444002 : Value).ownBlock ∧ some k_ ≠ (u444004 : Value).ownBlock ∧ some k_ ≠ (u444007 : Value).ownBlock) u444009 x444009_4) := ⟨(by rw [hw]; exact (by (with_reducible repeat (first|apply Kd.R_alloc|apply Kd.R_drewN|apply Kd.R_drew)); exact Kd.R_mono (Kd.R_far (p := ⟨gb505,2,none⟩) (Kd.R_far (p := ⟨gb505,1,none⟩) (Kd.R_far (p := ⟨gb505,0,none⟩) (Kd.R_types HO_444009.out BK505.out (by decide)) (fun _ h=>h.2) (.int .i64 ((rd_T36 x444011_4 0).f0))) (fun _ h=>h.2) (.int .i64 ((rd_T36 x444011_4 0).f1))) (fun _ h=>h.2) (.string ((rd_T36 x444011_4 0).f2))) (fun _ hk => ⟨hk.1.1,⟨hk.1.2.1,hk.1.2.2⟩⟩)))⟩; have n4_ : Aside0 (Kd.Q k36 36 w112 w.heap.size (fun k_ => some k_ ≠ (.slice (some ad504) x444011_4.length co108 : Value).ownBlock ∧ k_ ≠ gb505) u444010 x444010_4) := ⟨(by rw [hw]; exact (by (with_reducible repeat (first|apply Kd.Q_alloc|apply Kd.Q_drewN|apply Kd.Q_drew)); exact Kd.Q_mono (Kd.Q_far (p := ⟨gb505,2,none⟩) (Kd.Q_far (p := ⟨gb505,1,none⟩) (Kd.Q_far (p := ⟨gb505,0,none⟩) (Kd.Q_mono HO_444010.out (fun k_ hk => (⟨hk,hk.2⟩ : _ ∧ k_ ≠ gb505))) (fun _ h=>h.2) (.int .i64 ((rd_T36 x444011_4 0).f0))) (fun _ h=>h.2) (.int .i64 ((rd_T36 x444011_4 0).f1))) (fun _ h=>h.2) (.string ((rd_T36 x444011_4 0).f2))) (fun _ hk => ⟨hk.1.1,hk.1.2⟩)))⟩; have n5_ : Aside0 (Kd.Q k36 36 w112 w.heap.size (fun k_ => some k_ ≠ (u444010 : Value).ownBlock ∧ k_ ≠ gb505) (.slice (some ad504) x444011_4.length co108) x444011_4) := ⟨(by rw [hw]; exact (by (with_reducible repeat (first|apply Kd.Q_alloc|apply Kd.Q_drewN|apply Kd.Q_drew)); exact Kd.Q_mono (Kd.Q_far (p := ⟨gb505,2,none⟩) (Kd.Q_far (p := ⟨gb505,1,none⟩) (Kd.Q_far (p := ⟨gb505,0,none⟩) (Kd.Q_mono HO_444011.out (fun k_ hk => (⟨hk,hk.2⟩ : _ ∧ k_ ≠ gb505))) (fun _ h=>h.2) (.int .i64 ((rd_T36 x444011_4 0).f0))) (fun _ h=>h.2) (.int .i64 ((rd_T36 x444011_4 0).f1))) (fun _ h=>h.2) (.string ((rd_T36 x444011_4 0).f2))) (fun _ hk => ⟨hk.1.1,hk.1.2⟩)))⟩; have n6_ : Aside0 (w112.heap[gb443]? = some (.cells #[.int .i64 x444000_4,.int .i64 x444001_4,u444002,.int .i64 x444003_4,u444004,.int .i64 x444005_4,.int .i64 x444006_4,u444007,.int .i64 x444008_4,u444009,u444010,.slice (some ad504) x444011_4.length co108] 78 (0,0))) := ⟨(by rw [hw]; exact (bkT BK443.out))⟩; have n7_ : Aside0 (w112.heap[gb505]? = some (.cells #[.int .i64 ((rd_T36 x444011_4 0).f0),.int .i64 ((rd_T36 x444011_4 0).f1),.string ((rd_T36 x444011_4 0).f2)] 36 (0,0))) := ⟨(by rw [hw]; exact (by (with_reducible repeat (first|refine blk_drewN ?_ _|refine blk_drew ?_|refine blk_alloc ?_ _)); refine blk_put (cs := #[.int .i64 ((rd_T36 x444011_4 0).f0),.int .i64 ((rd_T36 x444011_4 0).f1),.string (⟨#[]⟩ : ByteArray)]) ?_ 2 _ rfl; (with_reducible repeat (first|refine blk_drewN ?_ _|refine blk_drew ?_|refine blk_alloc ?_ _)); refine blk_put (cs := #[.int .i64 ((rd_T36 x444011_4 0).f0),.int .i64 0,.string (⟨#[]⟩ : ByteArray)]) ?_ 1 _ rfl; (with_reducible repeat (first|refine blk_drewN ?_ _|refine blk_drew ?_|refine blk_alloc ?_ _)); refine blk_put (cs := #[.int .i64 0,.int .i64 0,.string (⟨#[]⟩ : ByteArray)]) ?_ 0 _ rfl; (with_reducible repeat (first|refine blk_drewN ?_ _|refine blk_drew ?_|refine blk_alloc ?_ _)); exact BK505.out))⟩; have n8_ : Aside0 (Below w.heap.size w w112) := ⟨(by rw [hw]; exact (bT HB))⟩; clear hw HO_444002 HO_444004 HO_444007 HO_444009 HO_444010 HO_444011 BK443 BK505 HB; have HO_444002 := n0_; have HO_444004 := n1_; have HO_444007 := n2_; have HO_444009 := n3_; have HO_444010 := n4_; have HO_444011 := n5_; have BK443 := n6_; have BK505 := n7_; have HB := n8_; clear n0_ n1_ n2_ n3_ n4_ n5_ n6_ n7_ n8_; obtain ⟨_,_,_,_,_,_,_,_,_,_,_,_,_,_,_,_,_,_,_,_,_,_,_,_⟩ := cz12 BK443.out; have q114 : (1 : Int) ≤ ((x444011_4.length : Int) : Int) := of_decide_eq_true (by first|(with_reducible assumption) | assumption); obtain ⟨i0114,hi0114,_,hsz114,_⟩ := info_parts info36; have hcut114 := cut_from (P := Try.prog) 45 36 .i64 Try.underlying45 hi0114 3 hsz114 (some ad504) x444011_4.length co108 1 (by omega) q114; have hr114 := Kd.Q_drop (k := (1 : Int).toNat) HO_444011.out (by omega); obtain ⟨A114,hA114⟩ : ∃ A1,A1 = (if co108 = (1 : Int).toNat then (some ad504) else ((some ad504) : Option Addr).map (·.add ((1 : Int).toNat * 3))) := ⟨_,rfl⟩; obtain ⟨c114,hc114⟩ : ∃ c1,c1 = co108 - (1 : Int).toNat := ⟨_,rfl⟩; have hy114 : y506.length = x444011_4.length - (1 : Int).toNat := (by rw [Ny506.out,List.length_drop]); rw [← Ny506.out] at hr114; rw [← hy114,← hA114,← hc114] at hcut114; replace hr114 : Kd.Q k36 36 w112 w.heap.size (fun k_ => some k_ ≠ (u444010 : Value).ownBlock ∧ k_ ≠ gb505) (.slice A114 y506.length c114) y506 := (by rw [hA114,hc114,hy114]; exact hr114); have HE114 : Aside0 ((Value.slice A114 y506.length c114).ownBlock = (.slice (some ad504) x444011_4.length co108 : Value).ownBlock) := ⟨by rw [hA114]; split <;> (cases ((some ad504) : Option Addr) <;> first|rfl|(simp only [Option.map_some,Value.ownBlock]; unfold Addr.add; split <;> rfl))⟩; clear hy114 hi0114 hsz114 HO_444011 hA114 hc114; have HO508 := Aside0.mk hr114; clear hr114; replace q114 := eq_true q114; have n_ := Aside0.mk (Kd.Q_mono (ok' := fun k_ => (some k_ ≠ (.slice A114 y506.length c114 : Value).ownBlock ∧ k_ ≠ gb505)) HO_444010.out (fun k_ hk => ⟨(by rw [HE114.out]; exact hk.1),hk.2⟩)); clear HO_444010; have HO_444010 := n_; clear n_))
          have H := H'.out
          clear H'
          simp only [Option.some.injEq,Prod.mk.injEq] at H
          obtain ⟨rfl,rfl,rfl,rfl,rfl,rfl,rfl,rfl,rfl,rfl,rfl,rfl⟩ := H
          (try simp only [Exit.inBlock, Exit.then])
          (first | (refine bodyPost_ret (results_none rfl _ _ _) rfl ?_) | (refine bodyPost_end (results_none rfl _ _ _) rfl ?_))
          exact ⟨(u444002),(u444004),(u444007),(u444009),(u444010),(.slice A114 y506.length c114),rfl,⟨by (with_reducible repeat (first|apply Kd.Q_alloc|apply Kd.Q_drewN|apply Kd.Q_drew)); exact Kd.Q_mono (Kd.Q_far (p := ⟨gb443,11,none⟩) (Kd.Q_types HO_444002.out BK443.out (by decide)) (fun _ h=>h.2) (.slice A114 y506.length c114)) (fun _ hk => ⟨hk.1.1,⟨hk.1.2.1,hk.1.2.2⟩⟩)⟩,⟨by (with_reducible repeat (first|apply Kd.R_alloc|apply Kd.R_drewN|apply Kd.R_drew)); exact Kd.R_mono (Kd.R_far (p := ⟨gb443,11,none⟩) (Kd.R_types HO_444004.out BK443.out (by decide)) (fun _ h=>h.2) (.slice A114 y506.length c114)) (fun _ hk => ⟨hk.1.1,⟨hk.1.2.1,hk.1.2.2⟩⟩)⟩,⟨by (with_reducible repeat (first|apply Kd.Q_alloc|apply Kd.Q_drewN|apply Kd.Q_drew)); exact Kd.Q_mono (Kd.Q_far (p := ⟨gb443,11,none⟩) (Kd.Q_types HO_444007.out BK443.out (by decide)) (fun _ h=>h.2) (.slice A114 y506.length c114)) (fun _ hk => ⟨hk.1.1,⟨hk.1.2.1,hk.1.2.2⟩⟩)⟩,⟨by (with_reducible repeat (first|apply Kd.R_alloc|apply Kd.R_drewN|apply Kd.R_drew)); exact Kd.R_mono (Kd.R_far (p := ⟨gb443,11,none⟩) (Kd.R_types HO_444009.out BK443.out (by decide)) (fun _ h=>h.2) (.slice A114 y506.length c114)) (fun _ hk => ⟨hk.1.1,⟨hk.1.2.1,hk.1.2.2⟩⟩)⟩,⟨by (with_reducible repeat (first|apply Kd.Q_alloc|apply Kd.Q_drewN|apply Kd.Q_drew)); exact Kd.Q_mono (Kd.Q_far (p := ⟨gb443,11,none⟩) (Kd.Q_types HO_444010.out BK443.out (by decide)) (fun _ h=>h.2) (.slice A114 y506.length c114)) (fun _ hk => hk.1.1)⟩,⟨by (with_reducible repeat (first|apply Kd.Q_alloc|apply Kd.Q_drewN|apply Kd.Q_drew)); exact Kd.Q_mono (Kd.Q_far (p := ⟨gb443,11,none⟩) (Kd.Q_types HO508.out BK443.out (by decide)) (fun _ h=>h.2) (.slice A114 y506.length c114)) (fun _ hk => hk.1.1)⟩,⟨by (with_reducible repeat (first|refine blk_drewN ?_ _|refine blk_drew ?_|refine blk_alloc ?_ _)); refine blk_put (cs := #[.int .i64 x444000_4,.int .i64 x444001_4,u444002,.int .i64 x444003_4,u444004,.int .i64 x444005_4,.int .i64 x444006_4,u444007,.int .i64 x444008_4,u444009,u444010,.slice (some ad504) x444011_4.length co108]) ?_ 11 _ rfl; (with_reducible repeat (first|refine blk_drewN ?_ _|refine blk_drew ?_|refine blk_alloc ?_ _)); exact BK443.out⟩,⟨bT HB⟩⟩
         ·
          rw [if_neg c106] at H
          have c106b0 : ((Int.tmod (wrap64 (Int.tdiv n 4)) 2) == 1) = false := beq_eq_false_iff_ne.mpr c106
          have c106b1 : ((Int.tmod (wrap64 (Int.tdiv n 4)) 2) != 1) = true := bne_iff_ne.mpr c106
          replace H := Option.bind_eq_some_iff.mp H
          obtain ⟨⟨t509,t510,t511,t514,t515,t518⟩,A1150,H⟩ := H
          replace H : (some (t509,t510,t511,t514,t515,x444005_4,x444006_4,x444007_4,x444008_4,x444009_4,x444010_4,y506)) = some (r0,r1,r2,r3,r4,r5,r6,r7,r8,r9,r10,r11) := H
          have A115 := Aside0.mk A1150
          clear A1150
          have H' := Aside0.mk H
          clear H
          obtain ⟨_,_,_,_,_,_,_,_,_,_,_,_,_,_,_,_,_,_,_,_,_,_,_,_⟩ := cz12 BK443.out
          obtain ⟨Ao117,co117,eo117,_⟩ := Kd.Q_slice HO_444011.out
          subst eo117
          have p504 : 0 ≤ (0 : Int) := (by omega)
          have q504 : 0 < (x444011_4.length : Int) := of_decide_eq_true (by first|(with_reducible assumption) | assumption)
          obtain ⟨ad504,e504,hx504_0,hx504_1,hx504_2⟩ := at_T36 (Kd.Q_reads' HO_444011.out).2.2 0 p504 q504
          cases e504
          have qi504 : (0 < x444011_4.length) = True := eq_true (by omega)
          (try rw [show ((0 : Int)).toNat = 0 from rfl] at hx504_0)
          (try rw [show 0 * 3 = 0 from rfl] at hx504_0)
          (try rw [Addr.add_zero'] at hx504_0)
          (try rw [show ((0 : Int)).toNat = 0 from rfl] at hx504_1)
          (try rw [show 0 * 3 = 0 from rfl] at hx504_1)
          (try rw [Addr.add_zero'] at hx504_1)
          (try rw [show ((0 : Int)).toNat = 0 from rfl] at hx504_2)
          (try rw [show 0 * 3 = 0 from rfl] at hx504_2)
          (try rw [Addr.add_zero'] at hx504_2)
          replace p504 := eq_true p504
          replace q504 := eq_true q504
          try go_wp2_with (first | ((with_reducible refine gate_dst (N := 8) rfl ?_); (try (refine gate_guard (by rfl) ?_; dsimp only)); refine box_event ?hg (N := 8) ?hd (cs := #[.int .i64 0,.int .i64 0,.string (⟨#[]⟩ : ByteArray)]) (t := 36) ?hr ?_; (case hd => rfl); (case hg => rfl); (case hr => first | (go_simp; done) | (go_simp; rfl)); intro gb505 hg w118 hbox hb; have n0_ := Aside0.mk (Kd.Q_below (rrQ HO_444002.out) hb); have n1_ := Aside0.mk (Kd.R_below (rrAT HO_444004.out) hb); have n2_ := Aside0.mk (Kd.Q_below (rrQ HO_444007.out) hb); have n3_ := Aside0.mk (Kd.R_below (rrAT HO_444009.out) hb); have n4_ := Aside0.mk (Kd.Q_below (Kd.Q_elderB (rrQ HO_444010.out) gb505 (Nat.le_of_eq hg.symm)) hb); have n5_ := Aside0.mk (Kd.Q_below (Kd.Q_elderB (rrQ HO_444011.out) gb505 (Nat.le_of_eq hg.symm)) hb); have n6_ := Aside0.mk (blk_below (bkT BK443.out) hb); have n7_ := Aside0.mk (below_step (bT HB) hb); have n8_ := Aside0.mk (hbox); have n9_ := Aside0.mk ((by rw [hg]; exact (below_size (bT HB)) : w.heap.size ≤ gb505)); have n10_ := Aside0.mk ((by rw [hg]; exact (below_size (bT HB)) : w.heap.size ≤ gb505)); have n11_ := Aside0.mk ((by rw [hg]; exact Nat.ne_of_lt (blk_lt (g := gb443) (o := .cells #[.int .i64 x444000_4,.int .i64 x444001_4,u444002,.int .i64 x444003_4,u444004,.int .i64 x444005_4,.int .i64 x444006_4,u444007,.int .i64 x444008_4,u444009,u444010,.slice (some ad504) x444011_4.length co117] 78 (0,0)) (bkT BK443.out)) : gb443 ≠ gb505)); have n12_ := Aside0.mk ((by rw [hg]; exact Nat.ne_of_gt (blk_lt (g := gb443) (o := .cells #[.int .i64 x444000_4,.int .i64 x444001_4,u444002,.int .i64 x444003_4,u444004,.int .i64 x444005_4,.int .i64 x444006_4,u444007,.int .i64 x444008_4,u444009,u444010,.slice (some ad504) x444011_4.length co117] 78 (0,0)) (bkT BK443.out)) : gb505 ≠ gb443)); clear HO_444002 HO_444004 HO_444007 HO_444009 HO_444010 HO_444011 BK443 HB; have HO_444002 := n0_; have HO_444004 := n1_; have HO_444007 := n2_; have HO_444009 := n3_; have HO_444010 := n4_; have HO_444011 := n5_; have BK443 := n6_; have HB := n7_; have BK505 := n8_; have GW505 := n9_; have GE505 := n10_; have NB443_505 := n11_; have NB505_443 := n12_; clear n0_ n1_ n2_ n3_ n4_ n5_ n6_ n7_ n8_ n9_ n10_ n11_ n12_ hb hbox hg; have hnb119 := NB505_443.out; have hnc119 := NB443_505.out; obtain ⟨_,_,_,_,_,_⟩ := cz3 BK505.out) | ((with_reducible refine gate_store (t := 36) (p := 8) rfl ?_); refine store_event (t := 36) (p := 8) (v := ?vo_w121) (w1 := (((w118.setCell ⟨gb505,0,none⟩ (.int .i64 ((rd_T36 x444011_4 0).f0))).setCell ⟨gb505,1,none⟩ (.int .i64 ((rd_T36 x444011_4 0).f1))).setCell ⟨gb505,2,none⟩ (.string ((rd_T36 x444011_4 0).f2)))) ?hg ?ho ?hn ?hr ?_; (case ho => rfl); (case hg => rfl); (case hn => rfl); (case hr => first | (go_simp; done) | (go_simp; rfl)); intro w121 hw; have n0_ : Aside0 (Kd.Q Kd.string 9 w121 w.heap.size (fun k_ => some k_ ≠ (u444004 : Value).ownBlock ∧ some k_ ≠ (u444007 : Value).ownBlock ∧ some k_ ≠ (u444009 : Value).ownBlock) u444002 x444002_4) := ⟨(by rw [hw]; exact (by (with_reducible repeat (first|apply Kd.Q_alloc|apply Kd.Q_drewN|apply Kd.Q_drew)); exact Kd.Q_mono (Kd.Q_far (p := ⟨gb505,2,none⟩) (Kd.Q_far (p := ⟨gb505,1,none⟩) (Kd.Q_far (p := ⟨gb505,0,none⟩) (Kd.Q_types HO_444002.out BK505.out (by decide)) (fun _ h=>h.2) (.int .i64 ((rd_T36 x444011_4 0).f0))) (fun _ h=>h.2) (.int .i64 ((rd_T36 x444011_4 0).f1))) (fun _ h=>h.2) (.string ((rd_T36 x444011_4 0).f2))) (fun _ hk => ⟨hk.1.1,⟨hk.1.2.1,hk.1.2.2⟩⟩)))⟩; have n1_ : Aside0 (Kd.R Kd.string 9 w121 w.heap.size (fun k_ => some k_ ≠ (u444002 : Value).ownBlock ∧ some k_ ≠ (u444007 : Value).ownBlock ∧ some k_ ≠ (u444009 : Value).ownBlock) u444004 x444004_4) := ⟨(by rw [hw]; exact (by (with_reducible repeat (first|apply Kd.R_alloc|apply Kd.R_drewN|apply Kd.R_drew)); exact Kd.R_mono (Kd.R_far (p := ⟨gb505,2,none⟩) (Kd.R_far (p := ⟨gb505,1,none⟩) (Kd.R_far (p := ⟨gb505,0,none⟩) (Kd.R_types HO_444004.out BK505.out (by decide)) (fun _ h=>h.2) (.int .i64 ((rd_T36 x444011_4 0).f0))) (fun _ h=>h.2) (.int .i64 ((rd_T36 x444011_4 0).f1))) (fun _ h=>h.2) (.string ((rd_T36 x444011_4 0).f2))) (fun _ hk => ⟨hk.1.1,⟨hk.1.2.1,hk.1.2.2⟩⟩)))⟩; have n2_ : Aside0 (Kd.Q Kd.string 9 w121 w.heap.size (fun k_ => some k_ ≠ (u444002 : Value).ownBlock ∧ some k_ ≠ (u444004 : Value).ownBlock ∧ some k_ ≠ (u444009 : Value).ownBlock) u444007 x444007_4) := ⟨(by rw [hw]; exact (by (with_reducible repeat (first|apply Kd.Q_alloc|apply Kd.Q_drewN|apply Kd.Q_drew)); exact Kd.Q_mono (Kd.Q_far (p := ⟨gb505,2,none⟩) (Kd.Q_far (p := ⟨gb505,1,none⟩) (Kd.Q_far (p := ⟨gb505,0,none⟩) (Kd.Q_types HO_444007.out BK505.out (by decide)) (fun _ h=>h.2) (.int .i64 ((rd_T36 x444011_4 0).f0))) (fun _ h=>h.2) (.int .i64 ((rd_T36 x444011_4 0).f1))) (fun _ h=>h.2) (.string ((rd_T36 x444011_4 0).f2))) (fun _ hk => ⟨hk.1.1,⟨hk.1.2.1,hk.1.2.2⟩⟩)))⟩; have n3_ : Aside0 (Kd.R Kd.string 9 w121 w.heap.size (fun k_ => some k_ ≠ (u444002 : Value).ownBlock ∧ some k_ ≠ (u444004 : Value).ownBlock ∧ some k_ ≠ (u444007 : Value).ownBlock) u444009 x444009_4) := ⟨(by rw [hw]; exact (by (with_reducible repeat (first|apply Kd.R_alloc|apply Kd.R_drewN|apply Kd.R_drew)); exact Kd.R_mono (Kd.R_far (p := ⟨gb505,2,none⟩) (Kd.R_far (p := ⟨gb505,1,none⟩) (Kd.R_far (p := ⟨gb505,0,none⟩) (Kd.R_types HO_444009.out BK505.out (by decide)) (fun _ h=>h.2) (.int .i64 ((rd_T36 x444011_4 0).f0))) (fun _ h=>h.2) (.int .i64 ((rd_T36 x444011_4 0).f1))) (fun _ h=>h.2) (.string ((rd_T36 x444011_4 0).f2))) (fun _ hk => ⟨hk.1.1,⟨hk.1.2.1,hk.1.2.2⟩⟩)))⟩; have n4_ : Aside0 (Kd.Q k36 36 w121 w.heap.size (fun k_ => some k_ ≠ (.slice (some ad504) x444011_4.length co117 : Value).ownBlock ∧ k_ ≠ gb505) u444010 x444010_4) := ⟨(by rw [hw]; exact (by (with_reducible repeat (first|apply Kd.Q_alloc|apply Kd.Q_drewN|apply Kd.Q_drew)); exact Kd.Q_mono (Kd.Q_far (p := ⟨gb505,2,none⟩) (Kd.Q_far (p := ⟨gb505,1,none⟩) (Kd.Q_far (p := ⟨gb505,0,none⟩) (Kd.Q_mono HO_444010.out (fun k_ hk => (⟨hk,hk.2⟩ : _ ∧ k_ ≠ gb505))) (fun _ h=>h.2) (.int .i64 ((rd_T36 x444011_4 0).f0))) (fun _ h=>h.2) (.int .i64 ((rd_T36 x444011_4 0).f1))) (fun _ h=>h.2) (.string ((rd_T36 x444011_4 0).f2))) (fun _ hk => ⟨hk.1.1,hk.1.2⟩)))⟩; have n5_ : Aside0 (Kd.Q k36 36 w121 w.heap.size (fun k_ => some k_ ≠ (u444010 : Value).ownBlock ∧ k_ ≠ gb505) (.slice (some ad504) x444011_4.length co117) x444011_4) := ⟨(by rw [hw]; exact (by (with_reducible repeat (first|apply Kd.Q_alloc|apply Kd.Q_drewN|apply Kd.Q_drew)); exact Kd.Q_mono (Kd.Q_far (p := ⟨gb505,2,none⟩) (Kd.Q_far (p := ⟨gb505,1,none⟩) (Kd.Q_far (p := ⟨gb505,0,none⟩) (Kd.Q_mono HO_444011.out (fun k_ hk => (⟨hk,hk.2⟩ : _ ∧ k_ ≠ gb505))) (fun _ h=>h.2) (.int .i64 ((rd_T36 x444011_4 0).f0))) (fun _ h=>h.2) (.int .i64 ((rd_T36 x444011_4 0).f1))) (fun _ h=>h.2) (.string ((rd_T36 x444011_4 0).f2))) (fun _ hk => ⟨hk.1.1,hk.1.2⟩)))⟩; have n6_ : Aside0 (w121.heap[gb443]? = some (.cells #[.int .i64 x444000_4,.int .i64 x444001_4,u444002,.int .i64 x444003_4,u444004,.int .i64 x444005_4,.int .i64 x444006_4,u444007,.int .i64 x444008_4,u444009,u444010,.slice (some ad504) x444011_4.length co117] 78 (0,0))) := ⟨(by rw [hw]; exact (bkT BK443.out))⟩; have n7_ : Aside0 (w121.heap[gb505]? = some (.cells #[.int .i64 ((rd_T36 x444011_4 0).f0),.int .i64 ((rd_T36 x444011_4 0).f1),.string ((rd_T36 x444011_4 0).f2)] 36 (0,0))) := ⟨(by rw [hw]; exact (by (with_reducible repeat (first|refine blk_drewN ?_ _|refine blk_drew ?_|refine blk_alloc ?_ _)); refine blk_put (cs := #[.int .i64 ((rd_T36 x444011_4 0).f0),.int .i64 ((rd_T36 x444011_4 0).f1),.string (⟨#[]⟩ : ByteArray)]) ?_ 2 _ rfl; (with_reducible repeat (first|refine blk_drewN ?_ _|refine blk_drew ?_|refine blk_alloc ?_ _)); refine blk_put (cs := #[.int .i64 ((rd_T36 x444011_4 0).f0),.int .i64 0,.string (⟨#[]⟩ : ByteArray)]) ?_ 1 _ rfl; (with_reducible repeat (first|refine blk_drewN ?_ _|refine blk_drew ?_|refine blk_alloc ?_ _)); refine blk_put (cs := #[.int .i64 0,.int .i64 0,.string (⟨#[]⟩ : ByteArray)]) ?_ 0 _ rfl; (with_reducible repeat (first|refine blk_drewN ?_ _|refine blk_drew ?_|refine blk_alloc ?_ _)); exact BK505.out))⟩; have n8_ : Aside0 (Below w.heap.size w w121) := ⟨(by rw [hw]; exact (bT HB))⟩; clear hw HO_444002 HO_444004 HO_444007 HO_444009 HO_444010 HO_444011 BK443 BK505 HB; have HO_444002 := n0_; have HO_444004 := n1_; have HO_444007 := n2_; have HO_444009 := n3_; have HO_444010 := n4_; have HO_444011 := n5_; have BK443 := n6_; have BK505 := n7_; have HB := n8_; clear n0_ n1_ n2_ n3_ n4_ n5_ n6_ n7_ n8_; obtain ⟨_,_,_,_,_,_,_,_,_,_,_,_,_,_,_,_,_,_,_,_,_,_,_,_⟩ := cz12 BK443.out; have q123 : (1 : Int) ≤ ((x444011_4.length : Int) : Int) := of_decide_eq_true (by first|(with_reducible assumption) | assumption); obtain ⟨i0123,hi0123,_,hsz123,_⟩ := info_parts info36; have hcut123 := cut_from (P := Try.prog) 45 36 .i64 Try.underlying45 hi0123 3 hsz123 (some ad504) x444011_4.length co117 1 (by omega) q123; have hr123 := Kd.Q_drop (k := (1 : Int).toNat) HO_444011.out (by omega); obtain ⟨A123,hA123⟩ : ∃ A1,A1 = (if co117 = (1 : Int).toNat then (some ad504) else ((some ad504) : Option Addr).map (·.add ((1 : Int).toNat * 3))) := ⟨_,rfl⟩; obtain ⟨c123,hc123⟩ : ∃ c1,c1 = co117 - (1 : Int).toNat := ⟨_,rfl⟩; have hy123 : y506.length = x444011_4.length - (1 : Int).toNat := (by rw [Ny506.out,List.length_drop]); rw [← Ny506.out] at hr123; rw [← hy123,← hA123,← hc123] at hcut123; replace hr123 : Kd.Q k36 36 w121 w.heap.size (fun k_ => some k_ ≠ (u444010 : Value).ownBlock ∧ k_ ≠ gb505) (.slice A123 y506.length c123) y506 := (by rw [hA123,hc123,hy123]; exact hr123); have HE123 : Aside0 ((Value.slice A123 y506.length c123).ownBlock = (.slice (some ad504) x444011_4.length co117 : Value).ownBlock) := ⟨by rw [hA123]; split <;> (cases ((some ad504) : Option Addr) <;> first|rfl|(simp only [Option.map_some,Value.ownBlock]; unfold Addr.add; split <;> rfl))⟩; clear hy123 hi0123 hsz123 HO_444011 hA123 hc123; have HO508 := Aside0.mk hr123; clear hr123; replace q123 := eq_true q123; have n_ := Aside0.mk (Kd.Q_mono (ok' := fun k_ => (some k_ ≠ (.slice A123 y506.length c123 : Value).ownBlock ∧ k_ ≠ gb505)) HO_444010.out (fun k_ hk => ⟨(by rw [HE123.out]; exact hk.1),hk.2⟩)); clear HO_444010; have HO_444010 := n_; clear n_))
          have n0_ : Aside0 (Kd.Q Kd.string 9 (w121.setCell ⟨gb443,11,none⟩ (.slice A123 y506.length c123)) w.heap.size (fun k_ => some k_ ≠ (u444004 : Value).ownBlock ∧ some k_ ≠ (u444007 : Value).ownBlock ∧ some k_ ≠ (u444009 : Value).ownBlock) u444002 x444002_4) := ⟨by (with_reducible repeat (first|apply Kd.Q_alloc|apply Kd.Q_drewN|apply Kd.Q_drew)); exact Kd.Q_mono (Kd.Q_far (p := ⟨gb443,11,none⟩) (Kd.Q_types HO_444002.out BK443.out (by decide)) (fun _ h=>h.2) (.slice A123 y506.length c123)) (fun _ hk => ⟨hk.1.1,⟨hk.1.2.1,hk.1.2.2⟩⟩)⟩
          have n1_ : Aside0 (Kd.R Kd.string 9 (w121.setCell ⟨gb443,11,none⟩ (.slice A123 y506.length c123)) w.heap.size (fun k_ => some k_ ≠ (u444002 : Value).ownBlock ∧ some k_ ≠ (u444007 : Value).ownBlock ∧ some k_ ≠ (u444009 : Value).ownBlock) u444004 x444004_4) := ⟨by (with_reducible repeat (first|apply Kd.R_alloc|apply Kd.R_drewN|apply Kd.R_drew)); exact Kd.R_mono (Kd.R_far (p := ⟨gb443,11,none⟩) (Kd.R_types HO_444004.out BK443.out (by decide)) (fun _ h=>h.2) (.slice A123 y506.length c123)) (fun _ hk => ⟨hk.1.1,⟨hk.1.2.1,hk.1.2.2⟩⟩)⟩
          have n2_ : Aside0 (Kd.Q Kd.string 9 (w121.setCell ⟨gb443,11,none⟩ (.slice A123 y506.length c123)) w.heap.size (fun k_ => some k_ ≠ (u444002 : Value).ownBlock ∧ some k_ ≠ (u444004 : Value).ownBlock ∧ some k_ ≠ (u444009 : Value).ownBlock) u444007 x444007_4) := ⟨by (with_reducible repeat (first|apply Kd.Q_alloc|apply Kd.Q_drewN|apply Kd.Q_drew)); exact Kd.Q_mono (Kd.Q_far (p := ⟨gb443,11,none⟩) (Kd.Q_types HO_444007.out BK443.out (by decide)) (fun _ h=>h.2) (.slice A123 y506.length c123)) (fun _ hk => ⟨hk.1.1,⟨hk.1.2.1,hk.1.2.2⟩⟩)⟩
          have n3_ : Aside0 (Kd.R Kd.string 9 (w121.setCell ⟨gb443,11,none⟩ (.slice A123 y506.length c123)) w.heap.size (fun k_ => some k_ ≠ (u444002 : Value).ownBlock ∧ some k_ ≠ (u444004 : Value).ownBlock ∧ some k_ ≠ (u444007 : Value).ownBlock) u444009 x444009_4) := ⟨by (with_reducible repeat (first|apply Kd.R_alloc|apply Kd.R_drewN|apply Kd.R_drew)); exact Kd.R_mono (Kd.R_far (p := ⟨gb443,11,none⟩) (Kd.R_types HO_444009.out BK443.out (by decide)) (fun _ h=>h.2) (.slice A123 y506.length c123)) (fun _ hk => ⟨hk.1.1,⟨hk.1.2.1,hk.1.2.2⟩⟩)⟩
          have n4_ : Aside0 (Kd.Q k36 36 (w121.setCell ⟨gb443,11,none⟩ (.slice A123 y506.length c123)) w.heap.size (fun k_ => some k_ ≠ (.slice A123 y506.length c123 : Value).ownBlock ∧ k_ ≠ gb505) u444010 x444010_4) := ⟨by (with_reducible repeat (first|apply Kd.Q_alloc|apply Kd.Q_drewN|apply Kd.Q_drew)); exact Kd.Q_mono (Kd.Q_far (p := ⟨gb443,11,none⟩) (Kd.Q_types HO_444010.out BK443.out (by decide)) (fun _ h=>h.2) (.slice A123 y506.length c123)) (fun _ hk => ⟨hk.1.1,hk.1.2⟩)⟩
          have n5_ : Aside0 (Kd.Q k36 36 (w121.setCell ⟨gb443,11,none⟩ (.slice A123 y506.length c123)) w.heap.size (fun k_ => some k_ ≠ (u444010 : Value).ownBlock ∧ k_ ≠ gb505) (.slice A123 y506.length c123) y506) := ⟨by (with_reducible repeat (first|apply Kd.Q_alloc|apply Kd.Q_drewN|apply Kd.Q_drew)); exact Kd.Q_mono (Kd.Q_far (p := ⟨gb443,11,none⟩) (Kd.Q_types HO508.out BK443.out (by decide)) (fun _ h=>h.2) (.slice A123 y506.length c123)) (fun _ hk => ⟨hk.1.1,hk.1.2⟩)⟩
          have n6_ : Aside0 ((w121.setCell ⟨gb443,11,none⟩ (.slice A123 y506.length c123)).heap[gb443]? = some (.cells #[.int .i64 x444000_4,.int .i64 x444001_4,u444002,.int .i64 x444003_4,u444004,.int .i64 x444005_4,.int .i64 x444006_4,u444007,.int .i64 x444008_4,u444009,u444010,.slice A123 y506.length c123] 78 (0,0))) := ⟨by (with_reducible repeat (first|refine blk_drewN ?_ _|refine blk_drew ?_|refine blk_alloc ?_ _)); refine blk_put (cs := #[.int .i64 x444000_4,.int .i64 x444001_4,u444002,.int .i64 x444003_4,u444004,.int .i64 x444005_4,.int .i64 x444006_4,u444007,.int .i64 x444008_4,u444009,u444010,.slice (some ad504) x444011_4.length co117]) ?_ 11 _ rfl; (with_reducible repeat (first|refine blk_drewN ?_ _|refine blk_drew ?_|refine blk_alloc ?_ _)); exact BK443.out⟩
          have n7_ : Aside0 ((w121.setCell ⟨gb443,11,none⟩ (.slice A123 y506.length c123)).heap[gb505]? = some (.cells #[.int .i64 ((rd_T36 x444011_4 0).f0),.int .i64 ((rd_T36 x444011_4 0).f1),.string ((rd_T36 x444011_4 0).f2)] 36 (0,0))) := ⟨(bkT BK505.out)⟩
          have n8_ : Aside0 (Below w.heap.size w (w121.setCell ⟨gb443,11,none⟩ (.slice A123 y506.length c123))) := ⟨bT HB⟩
          generalize (w121.setCell ⟨gb443,11,none⟩ (.slice A123 y506.length c123)) = w124 at n0_ n1_ n2_ n3_ n4_ n5_ n6_ n7_ n8_ ⊢
          have HO_444002 := n0_
          have HO_444004 := n1_
          have HO_444007 := n2_
          have HO_444009 := n3_
          have HO_444010 := n4_
          have HO508 := n5_
          have BK443 := n6_
          have BK505 := n7_
          have HB := n8_
          clear n0_ n1_ n2_ n3_ n4_ n5_ n6_ n7_ n8_
          have n0_ := Aside0.mk (Kd.Q_drew HO_444002.out)
          have n1_ := Aside0.mk (Kd.R_drew HO_444004.out)
          have n2_ := Aside0.mk (Kd.Q_drew HO_444007.out)
          have n3_ := Aside0.mk (Kd.R_drew HO_444009.out)
          have n4_ := Aside0.mk (Kd.Q_drew HO_444010.out)
          have n5_ := Aside0.mk (Kd.Q_drew HO508.out)
          have n6_ := Aside0.mk (blk_drew BK443.out)
          have n7_ := Aside0.mk (blk_drew BK505.out)
          have n8_ := Aside0.mk (below_drew1 HB.out)
          clear HO_444002 HO_444004 HO_444007 HO_444009 HO_444010 HO508 BK443 BK505 HB
          have HO_444002 := n0_
          have HO_444004 := n1_
          have HO_444007 := n2_
          have HO_444009 := n3_
          have HO_444010 := n4_
          have HO508 := n5_
          have BK443 := n6_
          have BK505 := n7_
          have HB := n8_
          clear n0_ n1_ n2_ n3_ n4_ n5_ n6_ n7_ n8_
          obtain ⟨Ao126,co126,eo126,_⟩ := Kd.Q_slice HO_444002.out
          (first | subst eo126 | (injection eo126 with f1_ f2_ f3_; have f4_ := f1_.symm; have f5_ := f3_.symm; clear f1_ f2_ f3_; subst f4_; subst f5_))
          obtain ⟨Ao127,co127,eo127⟩ := Kd.R_slice HO_444004.out
          (first | subst eo127 | (injection eo127 with f1_ f2_ f3_; have f4_ := f1_.symm; have f5_ := f3_.symm; clear f1_ f2_ f3_; subst f4_; subst f5_))
          refine start_ (n := 13) (S := fun w' => w'.cell? ⟨gb443,0,none⟩ = some (.int .i64 x444000_4) ∧ w'.cell? ⟨gb443,1,none⟩ = some (.int .i64 x444001_4) ∧ w'.cell? ⟨gb443,2,none⟩ = some (.slice Ao126 x444002_4.length co126) ∧ w'.cell? ⟨gb443,3,none⟩ = some (.int .i64 x444003_4) ∧ w'.cell? ⟨gb443,4,none⟩ = some (.slice Ao127 x444004_4.length co127) ∧ w'.cell? ⟨gb443,5,none⟩ = some (.int .i64 x444005_4) ∧ w'.cell? ⟨gb443,6,none⟩ = some (.int .i64 x444006_4) ∧ w'.cell? ⟨gb443,7,none⟩ = some (u444007) ∧ w'.cell? ⟨gb443,8,none⟩ = some (.int .i64 x444008_4) ∧ w'.cell? ⟨gb443,9,none⟩ = some (u444009) ∧ w'.cell? ⟨gb443,10,none⟩ = some (u444010) ∧ w'.cell? ⟨gb443,11,none⟩ = some (.slice A123 y506.length c123) ∧ w'.cell? ⟨gb505,0,none⟩ = some (.int .i64 ((rd_T36 x444011_4 0).f0)) ∧ w'.cell? ⟨gb505,1,none⟩ = some (.int .i64 ((rd_T36 x444011_4 0).f1)) ∧ w'.cell? ⟨gb505,2,none⟩ = some (.string ((rd_T36 x444011_4 0).f2))) (ds := [12]) #[false,false,false,false,false,false,false,false,false,false,false,false,false] (by kernel_rfl) rfl rfl ⟨(blk_cell BK443.out 0).trans rfl,(blk_cell BK443.out 1).trans rfl,(blk_cell BK443.out 2).trans rfl,(blk_cell BK443.out 3).trans rfl,(blk_cell BK443.out 4).trans rfl,(blk_cell BK443.out 5).trans rfl,(blk_cell BK443.out 6).trans rfl,(blk_cell BK443.out 7).trans rfl,(blk_cell BK443.out 8).trans rfl,(blk_cell BK443.out 9).trans rfl,(blk_cell BK443.out 10).trans rfl,(blk_cell BK443.out 11).trans rfl,(blk_cell BK505.out 0).trans rfl,(blk_cell BK505.out 1).trans rfl,(blk_cell BK505.out 2).trans rfl⟩ (fun hHeld => ?_); refine with_tabW impl_talk_pick.tab20 impl_talk_pick.bits20 (fun HT_ HW_ => ?_)
          generalize w124.drew = w125 at HO_444002 HO_444004 HO_444007 HO_444009 HO_444010 HO508 BK443 BK505 HB hHeld ⊢
          refine pure_ (i := 0) (N := some 127) (v := ?_) (a' := ?_) #[true,false,false,false,false,false,false,false,false,false,false,false,false] rfl rfl (any_of HT_.out (by kernel_rfl)) (fun _ _ _ h => h) (Or.inl ⟨by rfl,?_⟩) ?_ ?_; rotate_left
          · intro w'; go_simp; with_reducible rfl
          rotate_left
          · simp only [Act.put,List.setIfInBounds_toArray,List.set_cons_zero,List.set_cons_succ,i64_w,i32_w]; rfl
          refine pure_ (i := 1) (N := some 128) (v := ?_) (a' := ?_) #[true,true,false,false,false,false,false,false,false,false,false,false,false] rfl rfl (any_of HT_.out (by kernel_rfl)) (fun _ _ _ h => h) (Or.inl ⟨by rfl,?_⟩) ?_ ?_; rotate_left
          · intro w'; go_simp; with_reducible rfl
          rotate_left
          · simp only [Act.put,List.setIfInBounds_toArray,List.set_cons_zero,List.set_cons_succ,i64_w,i32_w]; rfl
          refine pure_ (i := 2) (N := some 129) (v := ?_) (a' := ?_) #[true,true,true,false,false,false,false,false,false,false,false,false,false] rfl rfl (any_of HT_.out (by kernel_rfl)) (fun _ _ _ h => h) (Or.inl ⟨by rfl,?_⟩) ?_ ?_; rotate_left
          · intro w'; go_simp; with_reducible rfl
          rotate_left
          · simp only [Act.put,List.setIfInBounds_toArray,List.set_cons_zero,List.set_cons_succ,i64_w,i32_w]; rfl
          refine pure_ (i := 3) (N := some 130) (v := ?_) (a' := ?_) #[true,true,true,true,false,false,false,false,false,false,false,false,false] rfl rfl (any_of HT_.out (by kernel_rfl)) (fun _ _ _ h => h) (Or.inl ⟨by rfl,?_⟩) ?_ ?_; rotate_left
          · intro w'; go_simp; with_reducible rfl
          rotate_left
          · simp only [Act.put,List.setIfInBounds_toArray,List.set_cons_zero,List.set_cons_succ,i64_w,i32_w]; rfl
          refine take_ (i := 4) (N := some 131) (v := ?_) (a' := ?_) #[true,true,true,true,true,false,false,false,false,false,false,false,false] rfl rfl (take_ofW HT_.out HW_.out (by kernel_rfl)) (fun _ _ _ h => h) (Or.inl ⟨by rfl,?_⟩) hHeld ?_ ?_; rotate_left
          ·
           rintro w' ⟨s0,s1,s2,s3,s4,s5,s6,s7,s8,s9,s10,s11,s12,s13,s14⟩
           go_simp; with_reducible rfl
          rotate_left
          · simp only [Act.put,List.setIfInBounds_toArray,List.set_cons_zero,List.set_cons_succ,i64_w,i32_w]; rfl
          refine take_ (i := 5) (N := some 132) (v := ?_) (a' := ?_) #[true,true,true,true,true,true,false,false,false,false,false,false,false] rfl rfl (take_ofW HT_.out HW_.out (by kernel_rfl)) (fun _ _ _ h => h) (Or.inl ⟨by rfl,?_⟩) hHeld ?_ ?_; rotate_left
          ·
           rintro w' ⟨s0,s1,s2,s3,s4,s5,s6,s7,s8,s9,s10,s11,s12,s13,s14⟩
           go_simp; with_reducible rfl
          rotate_left
          · simp only [Act.put,List.setIfInBounds_toArray,List.set_cons_zero,List.set_cons_succ,i64_w,i32_w]; rfl
          refine one_ (i := 6) (N := some 133) #[true,true,true,true,true,true,true,false,false,false,false,false,false] rfl rfl (one_of HT_.out (by kernel_rfl)) (by decide) (fun K hK => ?_)
          refine goes_ Try.func20 (by kernel_rfl) rfl #[.agg #[.int .i64 x444000_4,.int .i64 x444001_4,.slice Ao126 x444002_4.length co126,.int .i64 x444003_4,.slice Ao127 x444004_4.length co127],.agg #[.int .i64 ((rd_T36 x444011_4 0).f0),.int .i64 ((rd_T36 x444011_4 0).f1),.string ((rd_T36 x444011_4 0).f2)]] (by rfl) rfl rfl (by (try simp only [List.map_toArray,List.map_cons,List.map_nil]); first | done|rfl|(simp only [List.length_drop,List.length_take]; rfl)) ?_
          with_reducible refine (impl_Receive.calls k4 x444000_4 x444001_4 _ _ x444002_4 x444003_4 _ _ x444004_4 ((rd_T36 x444011_4 0).f0) ((rd_T36 x444011_4 0).f1) ((rd_T36 x444011_4 0).f2) t509 t510 t511 t514 t515 t518 _ ?side1 ?side2 ?side3 ?side4 A115.out).mono ?_
          (case side1 => exact ccT ((Kd.Q_reads' HO_444002.out).2.2))
          (case side2 => exact (Kd.Q_reads' HO_444002.out).2.1)
          (case side3 => exact ccT ((Kd.R_reads' HO_444004.out).2.2))
          (case side4 => exact (Kd.R_reads' HO_444004.out).2.1)
          rintro e w128 ⟨v512,v516,rfl,ho0,ho1,hb⟩
          refine ⟨_,rfl,?_⟩
          have n0_ := Aside0.mk (Kd.Q_mono (Kd.Q_told (Kd.Q_told (Kd.Q_old (rrQ HO_444002.out) hb) (Kd.Q_base ho0)) (Kd.R_base ho1)) (fun _ h_ => h_.1))
          have n1_ := Aside0.mk (Kd.R_mono (Kd.R_told (Kd.R_told (Kd.R_old (rrAT HO_444004.out) hb) (Kd.Q_base ho0)) (Kd.R_base ho1)) (fun _ h_ => h_.1))
          have n2_ := Aside0.mk (Kd.Q_mono (Kd.Q_told (Kd.Q_told (Kd.Q_old (rrQ HO_444007.out) hb) (Kd.Q_base ho0)) (Kd.R_base ho1)) (fun _ h_ => h_.1))
          have n3_ := Aside0.mk (Kd.R_mono (Kd.R_told (Kd.R_told (Kd.R_old (rrAT HO_444009.out) hb) (Kd.Q_base ho0)) (Kd.R_base ho1)) (fun _ h_ => h_.1))
          have n4_ := Aside0.mk (Kd.Q_below (rrQ HO_444010.out) hb)
          have n5_ := Aside0.mk (Kd.Q_below (rrQ HO508.out) hb)
          have n6_ := Aside0.mk (Kd.Q_lower (Kd.Q_new' (Kd.Q_new' (Kd.Q_new' (Kd.Q_new' ho0 (Kd.Q_lt (rrQ HO_444002.out))) (Kd.R_lt (rrAT HO_444004.out))) (Kd.Q_lt (rrQ HO_444007.out))) (Kd.R_lt (rrAT HO_444009.out))) (below_size (bT HB)))
          have n7_ := Aside0.mk (Kd.R_lower (Kd.R_new' (Kd.R_new' (Kd.R_new' (Kd.R_new' ho1 (Kd.Q_lt (rrQ HO_444002.out))) (Kd.R_lt (rrAT HO_444004.out))) (Kd.Q_lt (rrQ HO_444007.out))) (Kd.R_lt (rrAT HO_444009.out))) (below_size (bT HB)))
          have n8_ := Aside0.mk (blk_below (bkT BK443.out) hb)
          have n9_ := Aside0.mk (blk_below (bkT BK505.out) hb)
          have n10_ := Aside0.mk (below_step (bT HB) hb)
          clear HO_444002 HO_444004 HO_444007 HO_444009 HO_444010 HO508 BK443 BK505 HB
          have HO_444002 := n0_
          have HO_444004 := n1_
          have HO_444007 := n2_
          have HO_444009 := n3_
          have HO_444010 := n4_
          have HO508 := n5_
          have HO513 := n6_
          have HO517 := n7_
          have BK443 := n8_
          have BK505 := n9_
          have HB := n10_
          clear n0_ n1_ n2_ n3_ n4_ n5_ n6_ n7_ n8_ n9_ n10_
          obtain ⟨Ao131,co131,eo131,_⟩ := Kd.Q_slice HO513.out
          (first | subst eo131 | (injection eo131 with f1_ f2_ f3_; have f4_ := f1_.symm; have f5_ := f3_.symm; clear f1_ f2_ f3_; subst f4_; subst f5_))
          obtain ⟨Ao134,co134,eo134⟩ := Kd.R_slice HO517.out
          (first | subst eo134 | (injection eo134 with f1_ f2_ f3_; have f4_ := f1_.symm; have f5_ := f3_.symm; clear f1_ f2_ f3_; subst f4_; subst f5_))
          refine hK.out _ _ ⟨(blk_cell BK443.out 0).trans rfl,(blk_cell BK443.out 1).trans rfl,(blk_cell BK443.out 2).trans rfl,(blk_cell BK443.out 3).trans rfl,(blk_cell BK443.out 4).trans rfl,(blk_cell BK443.out 5).trans rfl,(blk_cell BK443.out 6).trans rfl,(blk_cell BK443.out 7).trans rfl,(blk_cell BK443.out 8).trans rfl,(blk_cell BK443.out 9).trans rfl,(blk_cell BK443.out 10).trans rfl,(blk_cell BK443.out 11).trans rfl,(blk_cell BK505.out 0).trans rfl,(blk_cell BK505.out 1).trans rfl,(blk_cell BK505.out 2).trans rfl⟩ (fun hHeld => ?_)
          clear hK K
          refine norm_ (a' := ?_) ?_ ?_
          rotate_left
          ·
           show Act.put _ (some 133) _ = _
           simp only [Act.put,List.setIfInBounds_toArray,List.set_cons_zero,List.set_cons_succ,i64_w,i32_w]; rfl
          refine pure_ (i := 7) (N := some 126) (v := ?_) (a' := ?_) #[true,true,true,true,true,true,true,true,false,false,false,false,false] rfl rfl (any_of HT_.out (by kernel_rfl)) (fun _ _ _ h => h) (Or.inl ⟨by rfl,?_⟩) ?_ ?_; rotate_left
          · intro w'; go_simp; with_reducible rfl
          rotate_left
          · simp only [Act.put,List.setIfInBounds_toArray,List.set_cons_zero,List.set_cons_succ,i64_w,i32_w]; rfl
          refine pure_ (i := 8) (N := some 134) (v := ?_) (a' := ?_) #[true,true,true,true,true,true,true,true,true,false,false,false,false] rfl rfl (any_of HT_.out (by kernel_rfl)) (fun _ _ _ h => h) (Or.inl ⟨by rfl,?_⟩) ?_ ?_; rotate_left
          · intro w'; go_simp; with_reducible rfl
          rotate_left
          · simp only [Act.put,List.setIfInBounds_toArray,List.set_cons_zero,List.set_cons_succ,i64_w,i32_w]; rfl
          refine pure_ (i := 9) (N := some 135) (v := ?_) (a' := ?_) #[true,true,true,true,true,true,true,true,true,true,false,false,false] rfl rfl (any_of HT_.out (by kernel_rfl)) (fun _ _ _ h => h) (Or.inl ⟨by rfl,?_⟩) ?_ ?_; rotate_left
          · intro w'; go_simp; with_reducible rfl
          rotate_left
          · simp only [Act.put,List.setIfInBounds_toArray,List.set_cons_zero,List.set_cons_succ,i64_w,i32_w]; rfl
          refine pure_ (i := 10) (N := some 136) (v := ?_) (a' := ?_) #[true,true,true,true,true,true,true,true,true,true,true,false,false] rfl rfl (any_of HT_.out (by kernel_rfl)) (fun _ _ _ h => h) (Or.inl ⟨by rfl,?_⟩) ?_ ?_; rotate_left
          · intro w'; go_simp; with_reducible rfl
          rotate_left
          · simp only [Act.put,List.setIfInBounds_toArray,List.set_cons_zero,List.set_cons_succ,i64_w,i32_w]; rfl
          refine pure_ (i := 11) (N := some 137) (v := ?_) (a' := ?_) #[true,true,true,true,true,true,true,true,true,true,true,true,false] rfl rfl (any_of HT_.out (by kernel_rfl)) (fun _ _ _ h => h) (Or.inl ⟨by rfl,?_⟩) ?_ ?_; rotate_left
          · intro w'; go_simp; with_reducible rfl
          rotate_left
          · simp only [Act.put,List.setIfInBounds_toArray,List.set_cons_zero,List.set_cons_succ,i64_w,i32_w]; rfl
          refine last_ (i := 12) (N := none) #[true,true,true,true,true,true,true,true,true,true,true,true,true] rfl rfl (one_of HT_.out (by kernel_rfl)) (by decide) (fun K hK => ?_)
          have hs129 : w128.cell? ⟨gb443,0,none⟩ = some (.int .i64 x444000_4) := (blk_cell BK443.out 0).trans rfl
          have hfs129 := blk_frozen BK443.out 0
          have hns129_1 := NB505_443.out
          have hms129_1 := NB443_505.out
          have hs130 : w128.cell? ⟨gb443,1,none⟩ = some (.int .i64 x444001_4) := (blk_cell BK443.out 1).trans rfl
          have hfs130 := blk_frozen BK443.out 1
          have hns130_1 := NB505_443.out
          have hms130_1 := NB443_505.out
          have hs132 : w128.cell? ⟨gb443,2,none⟩ = some (.slice Ao126 x444002_4.length co126) := (blk_cell BK443.out 2).trans rfl
          have hfs132 := blk_frozen BK443.out 2
          have hns132_1 := NB505_443.out
          have hms132_1 := NB443_505.out
          have hs133 : w128.cell? ⟨gb443,3,none⟩ = some (.int .i64 x444003_4) := (blk_cell BK443.out 3).trans rfl
          have hfs133 := blk_frozen BK443.out 3
          have hns133_1 := NB505_443.out
          have hms133_1 := NB443_505.out
          have hs135 : w128.cell? ⟨gb443,4,none⟩ = some (.slice Ao127 x444004_4.length co127) := (blk_cell BK443.out 4).trans rfl
          have hfs135 := blk_frozen BK443.out 4
          have hns135_1 := NB505_443.out
          have hms135_1 := NB443_505.out
          refine skip_ (w1 := ?_) (by rfl) rfl ?_ ?_
          rotate_left
          · go_simp; rfl
          refine hK.out _ _ ?_
          clear hK K
          refine done_ (done_of HT_.out (by kernel_rfl)) ?_
          try go_wp2
          have H := H'.out
          clear H'
          simp only [Option.some.injEq,Prod.mk.injEq] at H
          obtain ⟨rfl,rfl,rfl,rfl,rfl,rfl,rfl,rfl,rfl,rfl,rfl,rfl⟩ := H
          (try simp only [Exit.inBlock, Exit.then])
          (first | (refine bodyPost_ret (results_none rfl _ _ _) rfl ?_) | (refine bodyPost_end (results_none rfl _ _ _) rfl ?_))
          exact ⟨(.slice Ao131 t511.length co131),(.slice Ao134 t515.length co134),(u444007),(u444009),(u444010),(.slice A123 y506.length c123),rfl,⟨by (with_reducible repeat (first|apply Kd.Q_alloc|apply Kd.Q_drewN|apply Kd.Q_drew)); exact Kd.Q_mono (Kd.Q_far (p := ⟨gb443,4,none⟩) (Kd.Q_far (p := ⟨gb443,3,none⟩) (Kd.Q_far (p := ⟨gb443,2,none⟩) (Kd.Q_far (p := ⟨gb443,1,none⟩) (Kd.Q_far (p := ⟨gb443,0,none⟩) (Kd.Q_types HO513.out BK443.out (by decide)) (fun _ h=>h.2) (.int .i64 t509)) (fun _ h=>h.2) (.int .i64 t510)) (fun _ h=>h.2) (.slice Ao131 t511.length co131)) (fun _ h=>h.2) (.int .i64 t514)) (fun _ h=>h.2) (.slice Ao134 t515.length co134)) (fun _ hk => ⟨hk.1.1.1.1.1,⟨hk.1.1.2,hk.1.2⟩⟩)⟩,⟨by (with_reducible repeat (first|apply Kd.R_alloc|apply Kd.R_drewN|apply Kd.R_drew)); exact Kd.R_mono (Kd.R_far (p := ⟨gb443,4,none⟩) (Kd.R_far (p := ⟨gb443,3,none⟩) (Kd.R_far (p := ⟨gb443,2,none⟩) (Kd.R_far (p := ⟨gb443,1,none⟩) (Kd.R_far (p := ⟨gb443,0,none⟩) (Kd.R_types HO517.out BK443.out (by decide)) (fun _ h=>h.2) (.int .i64 t509)) (fun _ h=>h.2) (.int .i64 t510)) (fun _ h=>h.2) (.slice Ao131 t511.length co131)) (fun _ h=>h.2) (.int .i64 t514)) (fun _ h=>h.2) (.slice Ao134 t515.length co134)) (fun _ hk => ⟨hk.1.1.1.1.1,⟨hk.1.1.2,hk.1.2⟩⟩)⟩,⟨by (with_reducible repeat (first|apply Kd.Q_alloc|apply Kd.Q_drewN|apply Kd.Q_drew)); exact Kd.Q_mono (Kd.Q_far (p := ⟨gb443,4,none⟩) (Kd.Q_far (p := ⟨gb443,3,none⟩) (Kd.Q_far (p := ⟨gb443,2,none⟩) (Kd.Q_far (p := ⟨gb443,1,none⟩) (Kd.Q_far (p := ⟨gb443,0,none⟩) (Kd.Q_types HO_444007.out BK443.out (by decide)) (fun _ h=>h.2) (.int .i64 t509)) (fun _ h=>h.2) (.int .i64 t510)) (fun _ h=>h.2) (.slice Ao131 t511.length co131)) (fun _ h=>h.2) (.int .i64 t514)) (fun _ h=>h.2) (.slice Ao134 t515.length co134)) (fun _ hk => ⟨hk.1.1.2,⟨hk.1.2,hk.1.1.1.2.2⟩⟩)⟩,⟨by (with_reducible repeat (first|apply Kd.R_alloc|apply Kd.R_drewN|apply Kd.R_drew)); exact Kd.R_mono (Kd.R_far (p := ⟨gb443,4,none⟩) (Kd.R_far (p := ⟨gb443,3,none⟩) (Kd.R_far (p := ⟨gb443,2,none⟩) (Kd.R_far (p := ⟨gb443,1,none⟩) (Kd.R_far (p := ⟨gb443,0,none⟩) (Kd.R_types HO_444009.out BK443.out (by decide)) (fun _ h=>h.2) (.int .i64 t509)) (fun _ h=>h.2) (.int .i64 t510)) (fun _ h=>h.2) (.slice Ao131 t511.length co131)) (fun _ h=>h.2) (.int .i64 t514)) (fun _ h=>h.2) (.slice Ao134 t515.length co134)) (fun _ hk => ⟨hk.1.1.2,⟨hk.1.2,hk.1.1.1.2.2⟩⟩)⟩,⟨by (with_reducible repeat (first|apply Kd.Q_alloc|apply Kd.Q_drewN|apply Kd.Q_drew)); exact Kd.Q_mono (Kd.Q_far (p := ⟨gb443,4,none⟩) (Kd.Q_far (p := ⟨gb443,3,none⟩) (Kd.Q_far (p := ⟨gb443,2,none⟩) (Kd.Q_far (p := ⟨gb443,1,none⟩) (Kd.Q_far (p := ⟨gb443,0,none⟩) (Kd.Q_types HO_444010.out BK443.out (by decide)) (fun _ h=>h.2) (.int .i64 t509)) (fun _ h=>h.2) (.int .i64 t510)) (fun _ h=>h.2) (.slice Ao131 t511.length co131)) (fun _ h=>h.2) (.int .i64 t514)) (fun _ h=>h.2) (.slice Ao134 t515.length co134)) (fun _ hk => hk.1.1)⟩,⟨by (with_reducible repeat (first|apply Kd.Q_alloc|apply Kd.Q_drewN|apply Kd.Q_drew)); exact Kd.Q_mono (Kd.Q_far (p := ⟨gb443,4,none⟩) (Kd.Q_far (p := ⟨gb443,3,none⟩) (Kd.Q_far (p := ⟨gb443,2,none⟩) (Kd.Q_far (p := ⟨gb443,1,none⟩) (Kd.Q_far (p := ⟨gb443,0,none⟩) (Kd.Q_types HO508.out BK443.out (by decide)) (fun _ h=>h.2) (.int .i64 t509)) (fun _ h=>h.2) (.int .i64 t510)) (fun _ h=>h.2) (.slice Ao131 t511.length co131)) (fun _ h=>h.2) (.int .i64 t514)) (fun _ h=>h.2) (.slice Ao134 t515.length co134)) (fun _ hk => hk.1.1)⟩,⟨by (with_reducible repeat (first|refine blk_drewN ?_ _|refine blk_drew ?_|refine blk_alloc ?_ _)); refine blk_put (cs := #[.int .i64 t509,.int .i64 t510,.slice Ao131 t511.length co131,.int .i64 t514,.slice Ao127 x444004_4.length co127,.int .i64 x444005_4,.int .i64 x444006_4,u444007,.int .i64 x444008_4,u444009,u444010,.slice A123 y506.length c123]) ?_ 4 _ rfl; (with_reducible repeat (first|refine blk_drewN ?_ _|refine blk_drew ?_|refine blk_alloc ?_ _)); refine blk_put (cs := #[.int .i64 t509,.int .i64 t510,.slice Ao131 t511.length co131,.int .i64 x444003_4,.slice Ao127 x444004_4.length co127,.int .i64 x444005_4,.int .i64 x444006_4,u444007,.int .i64 x444008_4,u444009,u444010,.slice A123 y506.length c123]) ?_ 3 _ rfl; (with_reducible repeat (first|refine blk_drewN ?_ _|refine blk_drew ?_|refine blk_alloc ?_ _)); refine blk_put (cs := #[.int .i64 t509,.int .i64 t510,.slice Ao126 x444002_4.length co126,.int .i64 x444003_4,.slice Ao127 x444004_4.length co127,.int .i64 x444005_4,.int .i64 x444006_4,u444007,.int .i64 x444008_4,u444009,u444010,.slice A123 y506.length c123]) ?_ 2 _ rfl; (with_reducible repeat (first|refine blk_drewN ?_ _|refine blk_drew ?_|refine blk_alloc ?_ _)); refine blk_put (cs := #[.int .i64 t509,.int .i64 x444001_4,.slice Ao126 x444002_4.length co126,.int .i64 x444003_4,.slice Ao127 x444004_4.length co127,.int .i64 x444005_4,.int .i64 x444006_4,u444007,.int .i64 x444008_4,u444009,u444010,.slice A123 y506.length c123]) ?_ 1 _ rfl; (with_reducible repeat (first|refine blk_drewN ?_ _|refine blk_drew ?_|refine blk_alloc ?_ _)); refine blk_put (cs := #[.int .i64 x444000_4,.int .i64 x444001_4,.slice Ao126 x444002_4.length co126,.int .i64 x444003_4,.slice Ao127 x444004_4.length co127,.int .i64 x444005_4,.int .i64 x444006_4,u444007,.int .i64 x444008_4,u444009,u444010,.slice A123 y506.length c123]) ?_ 0 _ rfl; (with_reducible repeat (first|refine blk_drewN ?_ _|refine blk_drew ?_|refine blk_alloc ?_ _)); exact BK443.out⟩,⟨bT HB⟩⟩
        ·
         rw [if_neg c105] at H
         exact absurd H (by simp)
       ·
        rw [if_neg c104] at H
        exact absurd H (by simp)
     ·
      rw [if_neg c100] at H
      have c100b0 : ((Int.tmod n 4) == 3) = false := beq_eq_false_iff_ne.mpr c100
      have c100b1 : ((Int.tmod n 4) != 3) = true := bne_iff_ne.mpr c100
      have H' := Aside0.mk H
      clear H
      go_wp2
      have H := H'.out
      clear H'
      simp only [Option.some.injEq,Prod.mk.injEq] at H
      obtain ⟨rfl,rfl,rfl,rfl,rfl,rfl,rfl,rfl,rfl,rfl,rfl,rfl⟩ := H
      (try simp only [Exit.inBlock, Exit.then])
      (first | (refine bodyPost_ret (results_none rfl _ _ _) rfl ?_) | (refine bodyPost_end (results_none rfl _ _ _) rfl ?_))
      exact ⟨(u444002),(u444004),(u444007),(u444009),(u444010),(u444011),rfl,⟨(rrQ HO_444002.out)⟩,⟨(rrAT HO_444004.out)⟩,⟨(rrQ HO_444007.out)⟩,⟨(rrAT HO_444009.out)⟩,⟨(rrQ HO_444010.out)⟩,⟨(rrQ HO_444011.out)⟩,⟨(bkT BK443.out)⟩,⟨bT HB⟩⟩

end Go.Proofs.Ytlidnobkkgcnlaa.PFnLinks
