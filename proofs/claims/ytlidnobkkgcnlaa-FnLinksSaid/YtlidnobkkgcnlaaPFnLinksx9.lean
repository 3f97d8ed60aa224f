-- Written by a program out of the translation,for this claim.
import Derived.Test.YtlidnobkkgcnlaaPFnLinksx0
import Derived.Test.YtlidnobkkgcnlaaPFnLinksx6
namespace Go.Proofs.Ytlidnobkkgcnlaa.PFnLinks
open Go.RowKit Go.Proofs.YtlidnobkkgcnlaaW.PrintWords Go.Proofs.YtlidnobkkgcnlaaW.PrintLast Go.Proofs.YtlidnobkkgcnlaaW.PrintMore
attribute [local go_sem] max2_int min2_int max_two min_two max_three min_three max_four min_four   -- for this text's walks alone
set_option linter.unusedVariables false
set_option linter.unusedSimpArgs false
theorem rrA9 {p q : Prop} (h : p) (f : p → q := by (intro h_; (with_reducible repeat (first | apply Kd.R_alloc | apply Kd.R_drewN | apply Kd.R_drew)); exact h_)) : q := f h
open Go.Proofs.YtlidnobkkgcnlaaW.PrintWords.Aside0 renaming mk → zA

/-! ### spec_SendAgain: function 26 -/
def spec_SendAgain.l0 : Nat → List (S36) → Int → Int → Int → List ByteArray → Int → List ByteArray → Option ((List (S36)))
  | 0,_,_,_,_,_,_,_ => none
  | k + 1,x3,x4,x245000,x245001,x245002,x245003,x245004 => if x4 < (wrap64 (x245000 - x245001)) then (if 0 ≤ x4 then (if x4 < (x245002.length : Int) then (if x3.length < 4398046511104 then (spec_SendAgain.l0 k (x3 ++ [(⟨wrap64 ((wrap64 (x245001 + x4)) + 1),x245003,rdOf ByteArray.empty x245002 x4⟩ : S36)]) (wrap64 (x4 + 1)) x245000 x245001 x245002 x245003 x245004) else (none)) else (none)) else (none)) else (if (x3.length : Int) = 0 then (if x3.length < 4398046511104 then (some (x3 ++ [(⟨0,x245003,(⟨#[]⟩ : ByteArray)⟩ : S36)])) else (none)) else (some x3))
def spec_SendAgain.f (k : Nat) (a0_0 : Int) (a0_1 : Int) (l0_2 : List ByteArray) (a0_3 : Int) (l0_4 : List ByteArray) : Option ((List (S36))) := (some (([] : List (S36)) : List (S36))).bind fun y245 => ((spec_EndOk.f k a0_0 a0_1 l0_2 a0_3 l0_4).bind fun t248 => (if t248 = true then (spec_SendAgain.l0 k y245 0 a0_0 a0_1 l0_2 a0_3 l0_4) else (some y245)))
theorem spec_SendAgain.mono_l : ∀ k,(∀ y0 y1 y2 y3 y4 y5 y6,LeO (spec_SendAgain.l0 k y0 y1 y2 y3 y4 y5 y6) (spec_SendAgain.l0 (k + 1) y0 y1 y2 y3 y4 y5 y6))
  | 0 => fun _ _ _ _ _ _ _ r h => by simp [spec_SendAgain.l0] at h
  | k + 1 => by
   have ih0 := spec_SendAgain.mono_l k
   ·
    intro y0 y1 y2 y3 y4 y5 y6
    unfold spec_SendAgain.l0
    repeat' first
   |(with_reducible exact ih0 _ _ _ _ _ _ _)
   |(with_reducible exact spec_EndOk.mono _ _ _ _ _ _)
   |(with_reducible exact LeO.refl _)
   |(with_reducible exact LeO.none _)
   |(with_reducible refine LeO.ite ?_ ?_)
   |(with_reducible refine LeO.bind ?_ (fun _ => ?_))
   |exact ih0 _ _ _ _ _ _ _
   |exact spec_EndOk.mono _ _ _ _ _ _
   |exact LeO.none _
   |refine LeO.ite ?_ ?_
   |refine LeO.bind ?_ (fun _ => ?_)
theorem spec_SendAgain.mono : ∀ a0 a1 a2 a3 a4 k,LeO (spec_SendAgain.f k a0 a1 a2 a3 a4) (spec_SendAgain.f (k + 1) a0 a1 a2 a3 a4) := by
  intro a0 a1 a2 a3 a4 k
  have ih0 := spec_SendAgain.mono_l k
  unfold spec_SendAgain.f
  repeat' first
   |(with_reducible exact ih0 _ _ _ _ _ _ _)
   |(with_reducible exact spec_EndOk.mono _ _ _ _ _ _)
   |(with_reducible exact LeO.refl _)
   |(with_reducible exact LeO.none _)
   |(with_reducible refine LeO.ite ?_ ?_)
   |(with_reducible refine LeO.bind ?_ (fun _ => ?_))
   |exact ih0 _ _ _ _ _ _ _
   |exact spec_EndOk.mono _ _ _ _ _ _
   |exact LeO.none _
   |refine LeO.ite ?_ ?_
   |refine LeO.bind ?_ (fun _ => ?_)
def spec_SendAgain.T7 : Bool × List (List Nat × List Nat) := (true,[([],[]),([],[]),([1],[1]),([],[]),([2,3],[2,3]),([4],[4]),([],[]),([6],[6]),([],[]),([8],[8]),([],[]),([9,10],[9,10]),([11],[11]),([5,7,12],[5,7,12]),([13],[13]),([0,14],[0,14]),([15,15,0,1,2,3,4,5,6,7,8,9,10,11,12,13,14,15],[0,15])])
def spec_SendAgain.B7 : List Nat := [0,0,2,0,14,30,0,64,0,256,0,1792,3840,8190,16382,32767,65535]
theorem spec_SendAgain.tab7 : rtab .any (opsOf Try.f26 7) = spec_SendAgain.T7 := by kernel_rfl
theorem spec_SendAgain.bits7 : waitsOk spec_SendAgain.T7.2 spec_SendAgain.B7 = true := by kernel_rfl
set_option maxHeartbeats 8000000 in
set_option maxRecDepth 100000 in
theorem spec_SendAgain.calls (k : Nat) (a0_0 : Int) (a0_1 : Int) (A0_2 : Option Addr) (c0_2 : Nat) (l0_2 : List ByteArray) (a0_3 : Int) (A0_4 : Option Addr) (c0_4 : Nat) (l0_4 : List ByteArray) (r : List (S36)) (w : World) (hr0_2 : Kd.C Kd.string w A0_2 l0_2.length l0_2) (hc0_2 : l0_2.length ≤ c0_2) (hr0_4 : Kd.C Kd.string w A0_4 l0_4.length l0_4) (hc0_4 : l0_4.length ≤ c0_4) (h : spec_SendAgain.f k a0_0 a0_1 l0_2 a0_3 l0_4 = some r) :
   Calls Try.prog 26 #[.agg #[.int .i64 a0_0,.int .i64 a0_1,.slice A0_2 l0_2.length c0_2,.int .i64 a0_3,.slice A0_4 l0_4.length c0_4]] w fun e w' => ∃ v0_ : Value,e = .returned (v0_) ∧ Kd.R k36 36 w' w.heap.size (fun _ => True) v0_ r ∧ Below w.heap.size w w' := by
  have hu26 := Try.underlying26
  have hu36 := Try.underlying36
  have HR0_2 := zA hr0_2
  have HC0_2 := zA hc0_2
  clear hr0_2 hc0_2
  have HR0_4 := zA hr0_4
  have HC0_4 := zA hc0_4
  clear hr0_4 hc0_4
  have HB := zA (Below.refl w.heap.size w)
  have H : ((some (([] : List (S36)) : List (S36))).bind fun y245 => ((spec_EndOk.f k a0_0 a0_1 l0_2 a0_3 l0_4).bind fun t248 => (if t248 = true then (spec_SendAgain.l0 k y245 0 a0_0 a0_1 l0_2 a0_3 l0_4) else (some y245)))) = some r := h
  clear h
  obtain ⟨y245,hy245⟩ : ∃ y_ : List (S36),y_ = (([] : List (S36))) := ⟨_,rfl⟩
  replace H : ((spec_EndOk.f k a0_0 a0_1 l0_2 a0_3 l0_4).bind fun t248 => (if t248 = true then (spec_SendAgain.l0 k y245 0 a0_0 a0_1 l0_2 a0_3 l0_4) else (some y245))) = some r := by first | (rw [hy245]; with_reducible exact H) | (have H2_ := (Option.bind_some _ _).symm.trans H; rw [hy245]; with_reducible exact H2_) | (have H2_ := (Option.bind_some _ _).symm.trans H; with_reducible exact H2_)|with_reducible exact H | (rw [hy245]; exact H)|exact H
  have Ny245 := zA hy245
  clear hy245
  replace H := Option.bind_eq_some_iff.mp H
  obtain ⟨t248,A20,H⟩ := H
  replace H : (if t248 = true then (spec_SendAgain.l0 k y245 0 a0_0 a0_1 l0_2 a0_3 l0_4) else (some y245)) = some r := H
  have A2 := zA A20
  clear A20
  by_cases c3 : t248 = true
  ·
   subst c3
   have H1 : (spec_SendAgain.l0 k y245 0 a0_0 a0_1 l0_2 a0_3 l0_4) = some r := by rw [if_pos rfl] at H; exact H
   clear H; have H := H1; clear H1
   have H' := zA H
   clear H
   go_enter Try.func26,Try.ntmps26
   go_wp2_with (first | ((with_reducible refine gate_dst (N := 1) rfl ?_); refine box_event ?hg (N := 1) ?hd (cs := #[.int .i64 a0_0,.int .i64 a0_1,.slice A0_2 l0_2.length c0_2,.int .i64 a0_3,.slice A0_4 l0_4.length c0_4]) (t := 26) ?hr ?_; (case hd => rfl); (case hg => rfl); (case hr => first | (go_simp; done) | (go_simp; rfl)); intro gb244 hg w4 hbox hb; have n0_ := zA (below_step (bT HB) hb); have n1_ := zA (hbox); have n2_ := zA ((by rw [hg]; exact (below_size (bT HB)) : w.heap.size ≤ gb244)); have n3_ := zA ((by rw [hg]; exact (below_size (bT HB)) : w.heap.size ≤ gb244)); clear HB; have HB := n0_; have BK244 := n1_; have GW244 := n2_; have GE244 := n3_; clear n0_ n1_ n2_ n3_ hb hbox hg) | ((with_reducible refine gate_dst (N := 5) rfl ?_); refine Kd.R_lit k36 _ 36 ?hg (N := 5) ?hd (xs := ([] : List (S36))) (inner := []) (ok := fun _ => True) (okp := fun _ => True) ?hr ?hp (fun _ hk => hk) trivial (Below.refl _ _) (Nat.le_refl _) (by simp) ?_; (case hd => rfl); (case hg => rfl); (case hr => first | (go_simp; done) | (go_simp; rfl)); (case hp => exact (Reps.none _ _)); intro v246 w5 ho6 hb hg_ hnew_; clear hg_ hnew_; (first | rw [← Ny245.out] at ho6|(simp only [Int.reduceToNat] at ho6; rw [← Ny245.out] at ho6)); have n0_ := zA (Kd.R_lower ho6 (below_size (bT HB))); have n1_ := zA (blk_below (bkT BK244.out) hb); have n2_ := zA (below_step (bT HB) hb); clear BK244 HB; have HO247 := n0_; have BK244 := n1_; have HB := n2_; clear n0_ n1_ n2_ hb ho6; obtain ⟨_,_,_,_,_,_,_,_,_,_⟩ := cz5 BK244.out) | ((with_reducible refine gate_callee (f := 22) rfl ?_); refine goesL_ (some 7) rfl rfl Try.func22 (by kernel_rfl) rfl #[.agg #[.int .i64 a0_0,.int .i64 a0_1,.slice A0_2 l0_2.length c0_2,.int .i64 a0_3,.slice A0_4 l0_4.length c0_4]] rfl (by (try simp only [List.map_toArray,List.map_cons,List.map_nil]); first | done|rfl|(simp only [List.length_drop,List.length_take]; rfl)) ?_; (with_reducible refine (spec_EndOk.calls k a0_0 a0_1 _ _ l0_2 a0_3 _ _ l0_4 true _ ?side1 ?side2 ?side3 ?side4 A2.out).mono ?_); (case side1 => exact ccT (Kd.C_below HR0_2.out HB.out)); (case side2 => exact HC0_2.out); (case side3 => exact ccT (Kd.C_below HR0_4.out HB.out)); (case side4 => exact HC0_4.out); rintro e w8 ⟨rfl,hb⟩; refine ⟨_,rfl,?_⟩; have n0_ := zA (Kd.R_below (rrA9 HO247.out) hb); have n1_ := zA (blk_below (bkT BK244.out) hb); have n2_ := zA (below_step (bT HB) hb); clear HO247 BK244 HB; have HO247 := n0_; have BK244 := n1_; have HB := n2_; clear n0_ n1_ n2_))
   go_loopg [3,4] k (fun kq v3 v4 w' => ∃ (x3_1 : List (S36)) (x4_1 : Int),v4 = .int .i64 x4_1 ∧ Aside0 (spec_SendAgain.l0 kq x3_1 x4_1 a0_0 a0_1 l0_2 a0_3 l0_4 = some r) ∧ Aside0 (kq ≤ k) ∧ Aside0 (Kd.R k36 36 w' w.heap.size (fun _ => True) v3 x3_1) ∧ Aside0 (w'.heap[gb244]? = some (.cells #[.int .i64 a0_0,.int .i64 a0_1,(.slice A0_2 l0_2.length c0_2),.int .i64 a0_3,(.slice A0_4 l0_4.length c0_4)] 26 (0,0))) ∧ Aside0 (Below w.heap.size w w'))
   case atStart => exact ⟨(y245),(0),(by first|rfl|(simp; done)|(simp [*]; done)),H',⟨Nat.le_refl _⟩,⟨(rrA9 HO247.out)⟩,⟨(bkT BK244.out)⟩,⟨bT HB⟩⟩
   case round =>
    clear H'
    obtain ⟨x3_1,x4_1,rfl,HA,HK1,HO_3,BK244,HB⟩ := hrel
    cases gk with
    | zero => exact absurd HA.out (by simp [spec_SendAgain.l0])
    | succ k1 =>
     have H := HA.out
     clear HA
     simp only [spec_SendAgain.l0] at H
     by_cases c9 : x4_1 < (wrap64 (a0_0 - a0_1))
     ·
      rw [if_pos c9] at H
      have c9b0 : decide (x4_1 < (wrap64 (a0_0 - a0_1))) = true := decide_eq_true c9
      clear c9
      by_cases c10 : 0 ≤ x4_1
      ·
       rw [if_pos c10] at H
       have c10b0 : decide (0 ≤ x4_1) = true := decide_eq_true c10
       clear c10
       by_cases c11 : x4_1 < (l0_2.length : Int)
       ·
        rw [if_pos c11] at H
        have c11b0 : decide (x4_1 < (l0_2.length : Int)) = true := decide_eq_true c11
        clear c11
        by_cases c12 : x3_1.length < 4398046511104
        ·
         rw [if_pos c12] at H
         have LMc12 := zA c12
         clear c12
         obtain ⟨y250,hy250⟩ : ∃ y_ : List (S36),y_ = (x3_1 ++ [(⟨wrap64 ((wrap64 (a0_1 + x4_1)) + 1),a0_3,rdOf ByteArray.empty l0_2 x4_1⟩ : S36)]) := ⟨_,rfl⟩
         replace H : (spec_SendAgain.l0 k1 y250 (wrap64 (x4_1 + 1)) a0_0 a0_1 l0_2 a0_3 l0_4) = some r := by first | (rw [hy250]; with_reducible exact H) | (have H2_ := (Option.bind_some _ _).symm.trans H; rw [hy250]; with_reducible exact H2_) | (have H2_ := (Option.bind_some _ _).symm.trans H; with_reducible exact H2_)|with_reducible exact H | (rw [hy250]; exact H)|exact H
         have Ny250 := zA hy250
         clear hy250
         have H' := zA H
         clear H
         obtain ⟨_,_,_,_,_,_,_,_,_,_⟩ := cz5 BK244.out
         try go_wp2
         have n0_ := zA (Kd.R_drew HO_3.out)
         have n1_ := zA (blk_drew BK244.out)
         have n2_ := zA (below_drew1 HB.out)
         clear HO_3 BK244 HB
         have HO_3 := n0_
         have BK244 := n1_
         have HB := n2_
         clear n0_ n1_ n2_
         have p249 : 0 ≤ (x4_1 : Int) := of_decide_eq_true (by first|(with_reducible assumption) | assumption)
         have q249 : x4_1 < (l0_2.length : Int) := of_decide_eq_true (by first|(with_reducible assumption) | assumption)
         obtain ⟨ad249,e249,hx249_0⟩ := Kd.at_string HR0_2.out x4_1 p249 q249
         have hw249_0 := hx249_0
         cases e249
         replace hx249_0 := (HB.out.cell (World.block_lt_of_cell? w _ hx249_0)).trans hx249_0
         replace p249 := eq_true p249
         replace q249 := eq_true q249
         refine start_ (n := 17) (S := fun w' => w'.cell? ⟨gb244,0,none⟩ = some (.int .i64 a0_0) ∧ w'.cell? ⟨gb244,1,none⟩ = some (.int .i64 a0_1) ∧ w'.cell? ⟨gb244,2,none⟩ = some (.slice (some ad249) l0_2.length c0_2) ∧ w'.cell? ⟨gb244,3,none⟩ = some (.int .i64 a0_3) ∧ w'.cell? ⟨gb244,4,none⟩ = some (.slice A0_4 l0_4.length c0_4) ∧ w'.cell? (ad249.add (x4_1).toNat) = some (.string (rdOf ByteArray.empty l0_2 x4_1))) (ds := []) #[false,false,false,false,false,false,false,false,false,false,false,false,false,false,false,false,false] (by kernel_rfl) rfl rfl ⟨(blk_cell BK244.out 0).trans rfl,(blk_cell BK244.out 1).trans rfl,(blk_cell BK244.out 2).trans rfl,(blk_cell BK244.out 3).trans rfl,(blk_cell BK244.out 4).trans rfl,((HB.out.cell (World.block_lt_of_cell? w _ hw249_0)).trans hw249_0)⟩ (fun hHeld => ?_); refine with_tabW spec_SendAgain.tab7 spec_SendAgain.bits7 (fun HT_ HW_ => ?_)
         generalize wr.drew = w14 at HO_3 BK244 HB hx249_0 hHeld ⊢
         refine pure_ (i := 0) (N := some 19) (v := ?_) (a' := ?_) #[true,false,false,false,false,false,false,false,false,false,false,false,false,false,false,false,false] rfl rfl (any_of HT_.out (by kernel_rfl)) (fun _ _ _ h => h) (Or.inl ⟨by rfl,?_⟩) ?_ ?_; rotate_left
         · intro w'; go_simp; with_reducible rfl
         rotate_left
         · simp only [Act.put,List.setIfInBounds_toArray,List.set_cons_zero,List.set_cons_succ,i64_w,i32_w]; rfl
         refine pure_ (i := 1) (N := some 20) (v := ?_) (a' := ?_) #[true,true,false,false,false,false,false,false,false,false,false,false,false,false,false,false,false] rfl rfl (any_of HT_.out (by kernel_rfl)) (fun _ _ _ h => h) (Or.inl ⟨by rfl,?_⟩) ?_ ?_; rotate_left
         · intro w'; go_simp; with_reducible rfl
         rotate_left
         · simp only [Act.put,List.setIfInBounds_toArray,List.set_cons_zero,List.set_cons_succ,i64_w,i32_w]; rfl
         refine pure_ (i := 3) (N := some 22) (v := ?_) (a' := ?_) #[true,true,false,true,false,false,false,false,false,false,false,false,false,false,false,false,false] rfl rfl (any_of HT_.out (by kernel_rfl)) (fun _ _ _ h => h) (Or.inl ⟨by rfl,?_⟩) ?_ ?_; rotate_left
         · intro w'; go_simp; with_reducible rfl
         rotate_left
         · simp only [Act.put,List.setIfInBounds_toArray,List.set_cons_zero,List.set_cons_succ,i64_w,i32_w]; rfl
         refine pure_ (i := 6) (N := some 25) (v := ?_) (a' := ?_) #[true,true,false,true,false,false,true,false,false,false,false,false,false,false,false,false,false] rfl rfl (any_of HT_.out (by kernel_rfl)) (fun _ _ _ h => h) (Or.inl ⟨by rfl,?_⟩) ?_ ?_; rotate_left
         · intro w'; go_simp; with_reducible rfl
         rotate_left
         · simp only [Act.put,List.setIfInBounds_toArray,List.set_cons_zero,List.set_cons_succ,i64_w,i32_w]; rfl
         refine pure_ (i := 8) (N := some 27) (v := ?_) (a' := ?_) #[true,true,false,true,false,false,true,false,true,false,false,false,false,false,false,false,false] rfl rfl (any_of HT_.out (by kernel_rfl)) (fun _ _ _ h => h) (Or.inl ⟨by rfl,?_⟩) ?_ ?_; rotate_left
         · intro w'; go_simp; with_reducible rfl
         rotate_left
         · simp only [Act.put,List.setIfInBounds_toArray,List.set_cons_zero,List.set_cons_succ,i64_w,i32_w]; rfl
         refine pure_ (i := 10) (N := some 29) (v := ?_) (a' := ?_) #[true,true,false,true,false,false,true,false,true,false,true,false,false,false,false,false,false] rfl rfl (any_of HT_.out (by kernel_rfl)) (fun _ _ _ h => h) (Or.inl ⟨by rfl,?_⟩) ?_ ?_; rotate_left
         · intro w'; go_simp; with_reducible rfl
         rotate_left
         · simp only [Act.put,List.setIfInBounds_toArray,List.set_cons_zero,List.set_cons_succ,i64_w,i32_w]; rfl
         refine take_ (i := 2) (N := some 21) (v := ?_) (a' := ?_) #[true,true,true,true,false,false,true,false,true,false,true,false,false,false,false,false,false] rfl rfl (take_ofW HT_.out HW_.out (by kernel_rfl)) (fun _ _ _ h => h) (Or.inl ⟨by rfl,?_⟩) hHeld ?_ ?_; rotate_left
         ·
          rintro w' ⟨s0,s1,s2,s3,s4,s5⟩
          go_simp; with_reducible rfl
         rotate_left
         · simp only [Act.put,List.setIfInBounds_toArray,List.set_cons_zero,List.set_cons_succ,i64_w,i32_w]; rfl
         refine pure_ (i := 4) (N := some 23) (v := ?_) (a' := ?_) #[true,true,true,true,true,false,true,false,true,false,true,false,false,false,false,false,false] rfl rfl (any_of HT_.out (by kernel_rfl)) (fun _ _ _ h => h) (Or.inl ⟨by rfl,?_⟩) ?_ ?_; rotate_left
         · intro w'; go_simp; with_reducible rfl
         rotate_left
         · simp only [Act.put,List.setIfInBounds_toArray,List.set_cons_zero,List.set_cons_succ,i64_w,i32_w]; rfl
         refine pure_ (i := 5) (N := some 24) (v := ?_) (a' := ?_) #[true,true,true,true,true,true,true,false,true,false,true,false,false,false,false,false,false] rfl rfl (any_of HT_.out (by kernel_rfl)) (fun _ _ _ h => h) (Or.inl ⟨by rfl,?_⟩) ?_ ?_; rotate_left
         · intro w'; go_simp; with_reducible rfl
         rotate_left
         · simp only [Act.put,List.setIfInBounds_toArray,List.set_cons_zero,List.set_cons_succ,i64_w,i32_w]; rfl
         refine take_ (i := 7) (N := some 26) (v := ?_) (a' := ?_) #[true,true,true,true,true,true,true,true,true,false,true,false,false,false,false,false,false] rfl rfl (take_ofW HT_.out HW_.out (by kernel_rfl)) (fun _ _ _ h => h) (Or.inl ⟨by rfl,?_⟩) hHeld ?_ ?_; rotate_left
         ·
          rintro w' ⟨s0,s1,s2,s3,s4,s5⟩
          go_simp; with_reducible rfl
         rotate_left
         · simp only [Act.put,List.setIfInBounds_toArray,List.set_cons_zero,List.set_cons_succ,i64_w,i32_w]; rfl
         refine take_ (i := 9) (N := some 28) (v := ?_) (a' := ?_) #[true,true,true,true,true,true,true,true,true,true,true,false,false,false,false,false,false] rfl rfl (take_ofW HT_.out HW_.out (by kernel_rfl)) (fun _ _ _ h => h) (Or.inl ⟨by rfl,?_⟩) hHeld ?_ ?_; rotate_left
         ·
          rintro w' ⟨s0,s1,s2,s3,s4,s5⟩
          go_simp; with_reducible rfl
         rotate_left
         · simp only [Act.put,List.setIfInBounds_toArray,List.set_cons_zero,List.set_cons_succ,i64_w,i32_w]; rfl
         refine pure_ (i := 11) (N := some 30) (v := ?_) (a' := ?_) #[true,true,true,true,true,true,true,true,true,true,true,true,false,false,false,false,false] rfl rfl (any_of HT_.out (by kernel_rfl)) (fun _ _ _ h => h) (Or.inl ⟨by rfl,?_⟩) ?_ ?_; rotate_left
         · intro w'; go_simp; with_reducible rfl
         rotate_left
         · simp only [Act.put,List.setIfInBounds_toArray,List.set_cons_zero,List.set_cons_succ,i64_w,i32_w]; rfl
         refine take_ (i := 12) (N := some 31) (v := ?_) (a' := ?_) #[true,true,true,true,true,true,true,true,true,true,true,true,true,false,false,false,false] rfl rfl (take_ofW HT_.out HW_.out (by kernel_rfl)) (fun _ _ _ h => h) (Or.inl ⟨by rfl,?_⟩) hHeld ?_ ?_; rotate_left
         ·
          rintro w' ⟨s0,s1,s2,s3,s4,s5⟩
          go_simp; with_reducible rfl
         rotate_left
         · simp only [Act.put,List.setIfInBounds_toArray,List.set_cons_zero,List.set_cons_succ,i64_w,i32_w]; rfl
         refine pure_ (i := 13) (N := some 32) (v := ?_) (a' := ?_) #[true,true,true,true,true,true,true,true,true,true,true,true,true,true,false,false,false] rfl rfl (any_of HT_.out (by kernel_rfl)) (fun _ _ _ h => h) (Or.inl ⟨by rfl,?_⟩) ?_ ?_; rotate_left
         · intro w'; go_simp; with_reducible rfl
         rotate_left
         · simp only [Act.put,List.setIfInBounds_toArray,List.set_cons_zero,List.set_cons_succ,i64_w,i32_w]; rfl
         refine one_ (i := 14) (N := some 33) #[true,true,true,true,true,true,true,true,true,true,true,true,true,true,true,false,false] rfl rfl (one_of HT_.out (by kernel_rfl)) (by decide) (fun K hK => ?_)
         refine value_ (w1 := ?_) (v := ?_) (by rfl) rfl ?_ ?_
         rotate_left 2
         ·
          go_simp
          constructor
          · rfl
          · rfl
         refine hK.out _ _ ⟨(blk_cell (blk_alloc BK244.out _) 0).trans rfl,(blk_cell (blk_alloc BK244.out _) 1).trans rfl,(blk_cell (blk_alloc BK244.out _) 2).trans rfl,(blk_cell (blk_alloc BK244.out _) 3).trans rfl,(blk_cell (blk_alloc BK244.out _) 4).trans rfl,(World.cell?_alloc_lt _ _ _ (World.block_lt_of_cell? _ _ (((HB.out.cell (World.block_lt_of_cell? w _ hw249_0)).trans hw249_0)))).trans (((HB.out.cell (World.block_lt_of_cell? w _ hw249_0)).trans hw249_0))⟩ (fun hHeld => ?_)
         clear hK K
         refine norm_ (a' := ?_) ?_ ?_
         rotate_left
         ·
          show Act.put _ (some 33) _ = _
          simp only [Act.put,List.setIfInBounds_toArray,List.set_cons_zero,List.set_cons_succ,i64_w,i32_w]; rfl
         refine one_ (i := 15) (N := some 34) #[true,true,true,true,true,true,true,true,true,true,true,true,true,true,true,true,false] rfl rfl (one_of HT_.out (by kernel_rfl)) (by decide) (fun K hK => ?_)
         refine Kd.R_append_step k36 (w0 := w) w.heap.size (by rfl) (.tmp 19) (.tmp 33) 45 36 (.agg #[(.int .i64 0),(.int .i64 0),(.string ⟨#[]⟩)]) 32 rfl Try.underlying45 info36 rfl (by decide) (by omega) u3 x3_1 (⟨wrap64 ((wrap64 (a0_1 + x4_1)) + 1),a0_3,rdOf ByteArray.empty l0_2 x4_1⟩ : S36) [.int .i64 (wrap64 ((wrap64 (a0_1 + x4_1)) + 1)),.int .i64 a0_3,.string (rdOf ByteArray.empty l0_2 x4_1)] (fun _ => True) (fun _ => False) rfl rfl ?aP (fun _ hk => hk.elim) ?aF ?aO ?aB ?aS ?aL ?_
         (case aP => exact k36_mkM _ _ _ (⟨wrap64 ((wrap64 (a0_1 + x4_1)) + 1),a0_3,rdOf ByteArray.empty l0_2 x4_1⟩ : S36))
         (case aB => exact (bT HB))
         (case aF => exact (fun _ _ => trivial))
         (case aO => exact (rrA9 HO_3.out))
         (case aS => exact (below_size (bT HB)))
         (case aL => have := LMc12.out; omega)
         intro v251 w15 ho hb hg hat
         rw [← Ny250.out] at ho
         have n0_ := zA (blk_grown (bkT BK244.out) hg (Kd.R_ne HO_3.out BK244.out (by decide)))
         have n1_ := zA (hb)
         have n2_ := zA (ho)
         clear BK244 HB HO_3
         have BK244 := n0_
         have HB := n1_
         have HO252 := n2_
         clear n0_ n1_ n2_ ho hb hg hat
         refine hK.out _ _ ⟨(blk_cell BK244.out 0).trans rfl,(blk_cell BK244.out 1).trans rfl,(blk_cell BK244.out 2).trans rfl,(blk_cell BK244.out 3).trans rfl,(blk_cell BK244.out 4).trans rfl,((HB.out.cell (World.block_lt_of_cell? w _ hw249_0)).trans hw249_0)⟩ (fun hHeld => ?_)
         clear hK K
         refine norm_ (a' := ?_) ?_ ?_
         rotate_left
         ·
          show Act.put _ (some 34) _ = _
          simp only [Act.put,List.setIfInBounds_toArray,List.set_cons_zero,List.set_cons_succ,i64_w,i32_w]; rfl
         refine pure_ (i := 16) (N := some 3) (v := ?_) (a' := ?_) #[true,true,true,true,true,true,true,true,true,true,true,true,true,true,true,true,true] rfl rfl (any_of HT_.out (by kernel_rfl)) (fun _ _ _ h => h) (Or.inl ⟨by rfl,?_⟩) ?_ ?_; rotate_left
         · intro w'; go_simp; with_reducible rfl
         rotate_left
         · simp only [Act.put,List.setIfInBounds_toArray,List.set_cons_zero,List.set_cons_succ,i64_w,i32_w]; rfl
         refine done_ (done_of HT_.out (by kernel_rfl)) ?_
         try go_wp2
         go_roundg k1
         case measure => have := HK1.out; omega
         case rel => exact ⟨(y250),(wrap64 (x4_1 + 1)),(by first|rfl|(simp; done)|(simp [*]; done)),H',⟨by have := HK1.out; omega⟩,⟨(rrA9 HO252.out)⟩,⟨(bkT BK244.out)⟩,⟨bT HB⟩⟩
        ·
         rw [if_neg c12] at H
         exact absurd H (by simp)
       ·
        rw [if_neg c11] at H
        exact absurd H (by simp)
      ·
       rw [if_neg c10] at H
       exact absurd H (by simp)
     ·
      rw [if_neg c9] at H
      have c9b0 : decide (x4_1 < (wrap64 (a0_0 - a0_1))) = false := decide_eq_false c9
      clear c9
      by_cases c16 : (x3_1.length : Int) = 0
      ·
       rw [if_pos c16] at H
       have c16b0 : ((x3_1.length : Int) == 0) = true := beq_iff_eq.mpr c16
       have c16b1 : ((x3_1.length : Int) != 0) = false := bne_eq_false_iff_eq.mpr c16
       clear c16
       by_cases c17 : x3_1.length < 4398046511104
       ·
        rw [if_pos c17] at H
        have LMc17 := zA c17
        clear c17
        obtain ⟨y253,hy253⟩ : ∃ y_ : List (S36),y_ = (x3_1 ++ [(⟨0,a0_3,(⟨#[]⟩ : ByteArray)⟩ : S36)]) := ⟨_,rfl⟩
        replace H : (some y253) = some r := by first | (rw [hy253]; with_reducible exact H) | (have H2_ := (Option.bind_some _ _).symm.trans H; rw [hy253]; with_reducible exact H2_) | (have H2_ := (Option.bind_some _ _).symm.trans H; with_reducible exact H2_)|with_reducible exact H | (rw [hy253]; exact H)|exact H
        have Ny253 := zA hy253
        clear hy253
        obtain rfl := Option.some.inj H
        obtain ⟨_,_,_,_,_,_,_,_,_,_⟩ := cz5 BK244.out
        obtain ⟨Ao19,co19,eo19⟩ := Kd.R_slice HO_3.out
        subst eo19
        go_wp2_with (first | ((with_reducible refine gate_builtin (b := .append) (xs := #[.tmp 38,.tmp 42]) rfl ?_); at_builtin; refine Kd.R_append k36 (w0 := w) w.heap.size rfl (.tmp 38) (.tmp 42) 45 36 (.agg #[(.int .i64 0),(.int .i64 0),(.string ⟨#[]⟩)]) 32 rfl Try.underlying45 info36 rfl (by decide) (by omega) (.slice Ao19 x3_1.length co19) x3_1 (⟨0,a0_3,(⟨#[]⟩ : ByteArray)⟩ : S36) [.int .i64 0,.int .i64 a0_3,.string (⟨#[]⟩ : ByteArray)] (fun _ => True) (fun _ => False) rfl rfl ?aP (fun _ hk => hk.elim) ?aF ?aO ?aB ?aS ?aL ?_; (case aP => exact k36_mkM _ _ _ (⟨0,a0_3,(⟨#[]⟩ : ByteArray)⟩ : S36)); (case aB => exact (bT HB)); (case aF => exact (fun _ _ => trivial)); (case aO => exact (rrA9 HO_3.out)); (case aS => exact (below_size (bT HB))); (case aL => have := LMc17.out; omega); intro v254 w20 ho hb hg hat; rw [← Ny253.out] at ho; have n0_ := zA (blk_grown (bkT BK244.out) hg (Kd.R_ne HO_3.out BK244.out (by decide))); have n1_ := zA (hb); have n2_ := zA (ho); clear BK244 HB HO_3; have BK244 := n0_; have HB := n1_; have HO255 := n2_; clear n0_ n1_ n2_ ho hb hg hat))
        go_ret
        exact ⟨_,by first|rfl|(simp [errW_none,errW_some] <;> rfl)|(simp [*,errW_none,errW_some] <;> rfl),(rrA9 HO255.out),bT HB⟩
       ·
        rw [if_neg c17] at H
        exact absurd H (by simp)
      ·
       rw [if_neg c16] at H
       have c16b0 : ((x3_1.length : Int) == 0) = false := beq_eq_false_iff_ne.mpr c16
       have c16b1 : ((x3_1.length : Int) != 0) = true := bne_iff_ne.mpr c16
       have c16b2 : ¬ (x3_1 = []) := fun h_ => c16 (by rw [h_]; rfl)
       obtain rfl := Option.some.inj H
       obtain ⟨_,_,_,_,_,_,_,_,_,_⟩ := cz5 BK244.out
       obtain ⟨Ao22,co22,eo22⟩ := Kd.R_slice HO_3.out
       subst eo22
       go_wp2
       go_ret
       exact ⟨_,by first|rfl|(simp [errW_none,errW_some] <;> rfl)|(simp [*,errW_none,errW_some] <;> rfl),(rrA9 HO_3.out),bT HB⟩
  ·
   replace c3 := Bool.eq_false_iff.mpr c3
   subst c3
   have H1 : (some y245) = some r := by rw [if_neg (show ¬ (false = true) by decide)] at H; exact H
   clear H; have H := H1; clear H1
   obtain rfl := Option.some.inj H
   go_enter Try.func26,Try.ntmps26
   go_wp2_with (first | ((with_reducible refine gate_dst (N := 1) rfl ?_); refine box_event ?hg (N := 1) ?hd (cs := #[.int .i64 a0_0,.int .i64 a0_1,.slice A0_2 l0_2.length c0_2,.int .i64 a0_3,.slice A0_4 l0_4.length c0_4]) (t := 26) ?hr ?_; (case hd => rfl); (case hg => rfl); (case hr => first | (go_simp; done) | (go_simp; rfl)); intro gb244 hg w23 hbox hb; have n0_ := zA (below_step (bT HB) hb); have n1_ := zA (hbox); have n2_ := zA ((by rw [hg]; exact (below_size (bT HB)) : w.heap.size ≤ gb244)); have n3_ := zA ((by rw [hg]; exact (below_size (bT HB)) : w.heap.size ≤ gb244)); clear HB; have HB := n0_; have BK244 := n1_; have GW244 := n2_; have GE244 := n3_; clear n0_ n1_ n2_ n3_ hb hbox hg) | ((with_reducible refine gate_dst (N := 5) rfl ?_); refine Kd.R_lit k36 _ 36 ?hg (N := 5) ?hd (xs := ([] : List (S36))) (inner := []) (ok := fun _ => True) (okp := fun _ => True) ?hr ?hp (fun _ hk => hk) trivial (Below.refl _ _) (Nat.le_refl _) (by simp) ?_; (case hd => rfl); (case hg => rfl); (case hr => first | (go_simp; done) | (go_simp; rfl)); (case hp => exact (Reps.none _ _)); intro v246 w24 ho25 hb hg_ hnew_; clear hg_ hnew_; (first | rw [← Ny245.out] at ho25|(simp only [Int.reduceToNat] at ho25; rw [← Ny245.out] at ho25)); have n0_ := zA (Kd.R_lower ho25 (below_size (bT HB))); have n1_ := zA (blk_below (bkT BK244.out) hb); have n2_ := zA (below_step (bT HB) hb); clear BK244 HB; have HO247 := n0_; have BK244 := n1_; have HB := n2_; clear n0_ n1_ n2_ hb ho25; obtain ⟨_,_,_,_,_,_,_,_,_,_⟩ := cz5 BK244.out) | ((with_reducible refine gate_callee (f := 22) rfl ?_); refine goesL_ (some 7) rfl rfl Try.func22 (by kernel_rfl) rfl #[.agg #[.int .i64 a0_0,.int .i64 a0_1,.slice A0_2 l0_2.length c0_2,.int .i64 a0_3,.slice A0_4 l0_4.length c0_4]] rfl (by (try simp only [List.map_toArray,List.map_cons,List.map_nil]); first | done|rfl|(simp only [List.length_drop,List.length_take]; rfl)) ?_; (with_reducible refine (spec_EndOk.calls k a0_0 a0_1 _ _ l0_2 a0_3 _ _ l0_4 false _ ?side1 ?side2 ?side3 ?side4 A2.out).mono ?_); (case side1 => exact ccT (Kd.C_below HR0_2.out HB.out)); (case side2 => exact HC0_2.out); (case side3 => exact ccT (Kd.C_below HR0_4.out HB.out)); (case side4 => exact HC0_4.out); rintro e w27 ⟨rfl,hb⟩; refine ⟨_,rfl,?_⟩; have n0_ := zA (Kd.R_below (rrA9 HO247.out) hb); have n1_ := zA (blk_below (bkT BK244.out) hb); have n2_ := zA (below_step (bT HB) hb); clear HO247 BK244 HB; have HO247 := n0_; have BK244 := n1_; have HB := n2_; clear n0_ n1_ n2_))
   go_ret
   exact ⟨_,by first|rfl|(simp [errW_none,errW_some] <;> rfl)|(simp [*,errW_none,errW_some] <;> rfl),(rrA9 HO247.out),bT HB⟩

end Go.Proofs.Ytlidnobkkgcnlaa.PFnLinks
