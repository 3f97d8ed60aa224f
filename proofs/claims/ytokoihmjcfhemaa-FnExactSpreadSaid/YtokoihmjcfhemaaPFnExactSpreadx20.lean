-- Written by a program out of the translation,for this claim.
import Derived.Test.YtokoihmjcfhemaaPFnExactSpreadx0
import Derived.Test.YtokoihmjcfhemaaPFnExactSpreadx17
import Derived.Test.YtokoihmjcfhemaaPFnExactSpreadx18
import Derived.Test.YtokoihmjcfhemaaPFnExactSpreadx19
namespace Go.Proofs.Ytokoihmjcfhemaa.PFnExactSpread
open Go.RowKit Go.Proofs.YtokoihmjcfhemaaW.PrintWords Go.Proofs.YtokoihmjcfhemaaW.PrintLast Go.Proofs.YtokoihmjcfhemaaW.PrintMore
attribute [local go_sem] max2_int min2_int max_two min_two max_three min_three max_four min_four   -- for this text's walks alone
set_option linter.unusedVariables false
set_option linter.unusedSimpArgs false
theorem rrA20 {p q : Prop} (h : p) (f : p → q := by (intro h_; (with_reducible repeat (first | apply Kd.R_alloc | apply Kd.R_drewN | apply Kd.R_drew)); exact h_)) : q := f h
theorem rrB20 {p q : Prop} (h : p) (f : p → q := by (intro h_; (with_reducible repeat (first | refine blk_drewN ?_ _ | refine blk_drew ?_ | refine blk_alloc ?_ _)); exact h_)) : q := f h
open Go.Proofs.YtokoihmjcfhemaaW.PrintWords.Aside0 renaming mk → zA
open Go.Proofs.YtokoihmjcfhemaaW.PrintWords.Kd renaming R_far → zB
open Go.Proofs.YtokoihmjcfhemaaW.PrintWords renaming below_alloc → zC
open Go.Proofs.YtokoihmjcfhemaaW.PrintWords renaming below_drew1 → zD
open Go.Proofs.YtokoihmjcfhemaaW.PrintWords renaming pw_below_drewN → zE

/-! ### impl_TreeOf: function 18,by hand -/
/-- One way of a road: is it the way to its end? -/
def impl_TreeOf.st (s : Int) (d : List Int) (t : List Int) (a b c : Int) : List Int := if b = s ∨ rd d a < 0 ∨ wrap64 (rd d a + c) ≠ rd d b then t else if rd t b < 0 ∨ a < rd t b then t.set b.toNat a else t
def impl_TreeOf.road (s : Int) (d : List Int) (t : List Int) (r : S38) : List Int := impl_TreeOf.st s d (impl_TreeOf.st s d t r.f0 r.f1 r.f2) r.f1 r.f0 r.f2
def impl_TreeOf.ways (s : Int) (d : List Int) (i : Int) (t : List Int) (A B C : Int) : List Int := if i = 0 then impl_TreeOf.st s d (impl_TreeOf.st s d t A B C) B A C else if i = 1 then impl_TreeOf.st s d t B A C else t
def impl_TreeOf.f (k : Nat) (a0 : Int) (l1 : List S38) (a2 : Int) : Option (List Int) :=
  (impl_RoadsOk.f k a0 l1).bind fun t1 => (if t1 = true then ((impl_inRange.f a2 0 (wrap64 (a0 - 1))).bind fun t2 => (if t2 = true then ((impl_distances.f k a0 l1 a2).bind fun d => (if (1 ≤ a0 ∧ a0 ≤ 1000000 ∧ l1.length ≤ 1000000 ∧ d.length = a0.toNat) ∧ l1.all (fun r => decide (0 ≤ r.f0 ∧ r.f0 < a0 ∧ 0 ≤ r.f1 ∧ r.f1 < a0)) = true then some (l1.foldl (impl_TreeOf.road a2 d) (List.replicate a0.toNat (-1))) else none)) else (some ([] : List Int)))) else (some ([] : List Int)))
theorem impl_TreeOf.mono : ∀ a0 a1 a2 k,LeO (impl_TreeOf.f k a0 a1 a2) (impl_TreeOf.f (k + 1) a0 a1 a2) := by
  intro a0 a1 a2 k
  unfold impl_TreeOf.f
  repeat' first
   |exact impl_RoadsOk.mono _ _ _
   |exact impl_distances.mono _ _ _ _
   |exact LeO.refl _
   |refine LeO.bind ?_ (fun _ => ?_)
   |refine LeO.ite ?_ ?_
theorem impl_TreeOf.fill_step (j n : Nat) (h : j < n) : (List.replicate j (-1 : Int) ++ List.replicate (n - j) 0).set j (-1) = List.replicate (j + 1) (-1) ++ List.replicate (n - (j + 1)) 0 := by
  rw [List.set_append_right _ _ (by simp),List.length_replicate,Nat.sub_self,show n - j = (n - (j + 1)) + 1 by omega,List.replicate_succ,List.set_cons_zero,List.replicate_succ',List.append_assoc]
  rfl
theorem impl_TreeOf.idx0 (W : World) (a b c d : Int) : Sem.run Try.prog (Instr.index 57 (.agg #[.int .i64 a,.int .i64 b,.int .i64 c,.int .i64 d]) (.int .i64 0)) W = .ok (.agg #[.int .i64 a,.int .i64 b]) W := by
  obtain ⟨i0,h0,h1⟩ := Option.map_eq_some_iff.1 (show (Try.prog.info? 56).map (·.size) = some 2 by kernel_rfl)
  simp [Instr.index,run_underlying Try.underlying57,run_underlying Try.underlying56,Go.sizeOf,typeInfo,h0,h1,part,isAgg,asIntOf]
theorem impl_TreeOf.idx1 (W : World) (a b c d : Int) : Sem.run Try.prog (Instr.index 57 (.agg #[.int .i64 a,.int .i64 b,.int .i64 c,.int .i64 d]) (.int .i64 1)) W = .ok (.agg #[.int .i64 c,.int .i64 d]) W := by
  obtain ⟨i0,h0,h1⟩ := Option.map_eq_some_iff.1 (show (Try.prog.info? 56).map (·.size) = some 2 by kernel_rfl)
  simp [Instr.index,run_underlying Try.underlying57,run_underlying Try.underlying56,Go.sizeOf,typeInfo,h0,h1,part,isAgg,asIntOf]
theorem impl_TreeOf.st_no {s : Int} {d t : List Int} {a b c : Int} (h : b = s ∨ rd d a < 0 ∨ wrap64 (rd d a + c) ≠ rd d b) : impl_TreeOf.st s d t a b c = t := by unfold impl_TreeOf.st; rw [if_pos h]
theorem impl_TreeOf.st_same {s : Int} {d t : List Int} {a b c : Int} (h : ¬ (rd t b < 0 ∨ a < rd t b)) : impl_TreeOf.st s d t a b c = t := by unfold impl_TreeOf.st; split <;> simp [h]
theorem impl_TreeOf.st_yes {s : Int} {d t : List Int} {a b c : Int} (h1 : b ≠ s) (h2 : ¬ rd d a < 0) (h3 : wrap64 (rd d a + c) = rd d b) (h : rd t b < 0 ∨ a < rd t b) : impl_TreeOf.st s d t a b c = t.set b.toNat a := by
  unfold impl_TreeOf.st
  rw [if_neg (by rintro (e | e | e); exact h1 e; exact h2 e; exact e h3),if_pos h]
theorem impl_TreeOf.ways0 (s : Int) (d p : List Int) (A B C : Int) : impl_TreeOf.ways s d 0 p A B C = impl_TreeOf.ways s d 1 (impl_TreeOf.st s d p A B C) A B C := by simp [impl_TreeOf.ways]
theorem impl_TreeOf.ways1 (s : Int) (d p : List Int) (A B C : Int) : impl_TreeOf.ways s d 1 p A B C = impl_TreeOf.ways s d 2 (impl_TreeOf.st s d p B A C) A B C := by simp [impl_TreeOf.ways]
theorem impl_TreeOf.ways2 (s : Int) (d p : List Int) (A B C : Int) : impl_TreeOf.ways s d 2 p A B C = p := by simp [impl_TreeOf.ways]
set_option maxHeartbeats 8000000 in
set_option maxRecDepth 100000 in
theorem impl_TreeOf.calls (k : Nat) (a0 : Int) (A1 : Option Addr) (c1 : Nat) (l1 : List S38) (a2 : Int) (r : List Int) (w : World) (hr1 : Kd.C k38 w A1 l1.length l1) (hc1 : l1.length ≤ c1) (h : impl_TreeOf.f k a0 l1 a2 = some r) :
   Calls Try.prog 18 #[.int .i64 a0,.slice A1 l1.length c1,.int .i64 a2] w fun e w' => ∃ v0_ : Value,e = .returned (v0_) ∧ Kd.R (Kd.int .i64) 3 w' w.heap.size (fun _ => True) v0_ r ∧ Below w.heap.size w w' := by
  have hu38 := Try.underlying38
  have hu56 := Try.underlying56
  have hu57 := Try.underlying57
  unfold impl_TreeOf.f at h
  have HR1 := zA hr1
  have HC1 := zA hc1
  clear hr1 hc1
  have HB := zA (Below.refl w.heap.size w)
  obtain ⟨t1,A40,H⟩ := Option.bind_eq_some_iff.mp h
  clear h
  have A4 := zA A40
  clear A40
  cases t1 with
  | false =>
   obtain rfl := Option.some.inj ((if_neg (by decide)).symm.trans H)
   clear H
   go_enter Try.func18,Try.ntmps18
   go_wp2_with (first | ((with_reducible refine gate_callee (f := 22) rfl ?_); refine goesL_ (some 18) rfl rfl Try.func22 (by kernel_rfl) rfl #[.int .i64 a0,.slice A1 l1.length c1] rfl (by (try simp only [List.map_toArray,List.map_cons,List.map_nil]); first | done|rfl|(simp only [List.length_drop,List.length_take]; rfl)) ?_; (with_reducible refine (impl_RoadsOk.calls k a0 _ _ l1 false _ ?side1 ?side2 A4.out).mono ?_); (case side1 => repeat (first|exact HR1.out|(with_reducible refine Kd.C_alloc ?_ _)|(with_reducible refine Kd.C_drewN ?_ _)|(with_reducible refine Kd.C_drew ?_))); (case side2 => exact HC1.out); rintro e w9 ⟨rfl,hb⟩; refine ⟨_,rfl,?_⟩; have n0_ := zA (below_step (by repeat (first|(with_reducible first|exact HB.out|apply zC|apply zE|apply zD)|exact HB.out)) hb); clear HB; have HB := n0_; clear n0_; (try clear hb)))
   go_ret
   exact ⟨_,rfl,Kd.R_nil _ _ _ _ _,(by repeat (first|(with_reducible first|exact HB.out|apply zC|apply zE|apply zD)|exact HB.out))⟩
  | true =>
   replace H := (if_pos rfl).symm.trans H
   obtain ⟨t2,A60,H⟩ := Option.bind_eq_some_iff.mp H
   have A6 := zA A60
   clear A60
   cases t2 with
   | false =>
    obtain rfl := Option.some.inj ((if_neg (by decide)).symm.trans H)
    clear H
    go_enter Try.func18,Try.ntmps18
    go_wp2_with (first | ((with_reducible refine gate_callee (f := 22) rfl ?_); refine goesL_ (some 18) rfl rfl Try.func22 (by kernel_rfl) rfl #[.int .i64 a0,.slice A1 l1.length c1] rfl (by (try simp only [List.map_toArray,List.map_cons,List.map_nil]); first | done|rfl|(simp only [List.length_drop,List.length_take]; rfl)) ?_; (with_reducible refine (impl_RoadsOk.calls k a0 _ _ l1 true _ ?side1 ?side2 A4.out).mono ?_); (case side1 => repeat (first|exact HR1.out|(with_reducible refine Kd.C_alloc ?_ _)|(with_reducible refine Kd.C_drewN ?_ _)|(with_reducible refine Kd.C_drew ?_))); (case side2 => exact HC1.out); rintro e w9 ⟨rfl,hb⟩; refine ⟨_,rfl,?_⟩; have n0_ := zA (below_step (by repeat (first|(with_reducible first|exact HB.out|apply zC|apply zE|apply zD)|exact HB.out)) hb); clear HB; have HB := n0_; clear n0_; (try clear hb)) | (go_at_call 36; (with_reducible refine (impl_inRange.calls a2 0 (wrap64 (a0 - 1)) false _ A6.out).mono ?_); rintro e w' ⟨rfl,⟨nd,rfl⟩⟩))
    go_ret
    exact ⟨_,rfl,Kd.R_nil _ _ _ _ _,(by repeat (first|(with_reducible first|exact HB.out|apply zC|apply zE|apply zD)|exact HB.out))⟩
   | true =>
    replace H := (if_pos rfl).symm.trans H
    obtain ⟨dd,A80,H⟩ := Option.bind_eq_some_iff.mp H
    have A8 := zA A80
    clear A80
    by_cases hc : (1 ≤ a0 ∧ a0 ≤ 1000000 ∧ l1.length ≤ 1000000 ∧ dd.length = a0.toNat) ∧ l1.all (fun r => decide (0 ≤ r.f0 ∧ r.f0 < a0 ∧ 0 ≤ r.f1 ∧ r.f1 < a0)) = true
    case neg => rw [if_neg hc] at H; cases H
    rw [if_pos hc] at H
    obtain ⟨⟨h0,h1,h5,h6⟩,h4⟩ := hc
    have H' := zA (Option.some.inj H)
    have HA := zA (List.all_eq_true.1 h4)
    have HDL := zA h6
    clear H h4 h6
    have hn0 : decide (0 ≤ a0) = true := decide_eq_true (by omega)
    have hn1 : decide (a0.toNat ≤ 35184372088832) = true := decide_eq_true (by omega)
    have H01 := zA (And.intro h0 h1)
    clear h0 h1
    go_enter Try.func18,Try.ntmps18
    go_wp2_with (first | ((with_reducible refine gate_callee (f := 22) rfl ?_); refine goesL_ (some 18) rfl rfl Try.func22 (by kernel_rfl) rfl #[.int .i64 a0,.slice A1 l1.length c1] rfl (by (try simp only [List.map_toArray,List.map_cons,List.map_nil]); first | done|rfl|(simp only [List.length_drop,List.length_take]; rfl)) ?_; (with_reducible refine (impl_RoadsOk.calls k a0 _ _ l1 true _ ?side1 ?side2 A4.out).mono ?_); (case side1 => repeat (first|exact HR1.out|(with_reducible refine Kd.C_alloc ?_ _)|(with_reducible refine Kd.C_drewN ?_ _)|(with_reducible refine Kd.C_drew ?_))); (case side2 => exact HC1.out); rintro e w9 ⟨rfl,hb⟩; refine ⟨_,rfl,?_⟩; have n0_ := zA (below_step (by repeat (first|(with_reducible first|exact HB.out|apply zC|apply zE|apply zD)|exact HB.out)) hb); clear HB; have HB := n0_; clear n0_; (try clear hb)) | (go_at_call 36; (with_reducible refine (impl_inRange.calls a2 0 (wrap64 (a0 - 1)) true _ A6.out).mono ?_); rintro e w' ⟨rfl,⟨nd,rfl⟩⟩) | ((with_reducible refine gate_callee (f := 37) rfl ?_); refine goesL_ (some 30) rfl rfl Try.func37 (by kernel_rfl) rfl #[.int .i64 a0,.slice A1 l1.length c1,.int .i64 a2] rfl (by (try simp only [List.map_toArray,List.map_cons,List.map_nil]); first | done|rfl|(simp only [List.length_drop,List.length_take]; rfl)) ?_; (with_reducible refine (impl_distances.calls k a0 _ _ l1 a2 dd _ ?side1 ?side2 A8.out).mono ?_); (case side1 => repeat (first|exact (Kd.C_below HR1.out HB.out)|(with_reducible refine Kd.C_alloc ?_ _)|(with_reducible refine Kd.C_drewN ?_ _)|(with_reducible refine Kd.C_drew ?_))); (case side2 => exact HC1.out); rintro e w20 ⟨v7,rfl,ho7,hb⟩; refine ⟨_,rfl,?_⟩; replace ho7 := Kd.R_lower ho7 (below_size (by repeat (first|(with_reducible first|exact HB.out|apply zC|apply zE|apply zD)|exact HB.out))); have hl7 := HDL.out; have h01 := H01.out; obtain ⟨g7,c7,eq7,gb7,gl7,cl7,HG7⟩ := Kd.R_form ho7 (by omega); subst eq7; clear gb7 gl7 cl7 HG7 hl7 h01; have n0_ := zA (below_step (by repeat (first|(with_reducible first|exact HB.out|apply zC|apply zE|apply zD)|exact HB.out)) hb); clear HB; have HB := n0_; have HOD := zA ho7; clear n0_ hb ho7) | ((with_reducible refine gate_dst (N := 32) rfl ?_); refine Kd.R_make (Kd.int .i64) _ 3 rfl (N := 32) rfl 24 _ _ rfl a0 rfl rfl Try.underlying24 (.int .i64 0) 8 info3 rfl (by decide) (by omega) 0 (ok := fun _ => True) (okp := fun _ => True) rfl (fun _ hk => hk) trivial (of_decide_eq_true (by first|(with_reducible assumption) | assumption)) (Nat.le_trans (Nat.mul_le_mul_right _ (of_decide_eq_true (by first|(with_reducible assumption) | assumption) : a0.toNat ≤ 35184372088832)) (by omega)) (Below.refl _ _) (Nat.le_refl _) ?_; intro v32 w5 ho6 hb hg_ hnew_; clear hg_; obtain ⟨b3,hb3,hle3⟩ := hnew_; replace ho6 := Kd.R_lower ho6 (below_size (by repeat (first|(with_reducible first|exact HB.out|apply zC|apply zE|apply zD)|exact HB.out))); obtain ⟨d0,hd0⟩ : ∃ d0,d0 = List.replicate a0.toNat (0 : Int) := ⟨_,rfl⟩; rw [← hd0] at ho6; have hl0 : d0.length = a0.toNat := (by rw [hd0,List.length_replicate]); have h01 := H01.out; obtain ⟨g32,c32,eq32,gb32,gl32,cl32,HG32⟩ := Kd.R_form ho6 (by omega); subst eq32; have hod := Kd.R_mono (Kd.R_below (Kd.R_bound (rrA20 HOD.out)) hb) (ok' := fun k_ => k_ ≠ g32) (fun k_ hk => Nat.ne_of_lt (Nat.lt_of_lt_of_le hk.2.2.1 (by have e3 : some g32 = some b3 := hb3; injection e3 with e3; rw [e3]; exact hle3))); clear hb3 hle3; have GB32 := zA gb32; clear gb32 gl32 cl32 HG32 h01; have n0_ := zA ho6; have n1_ := zA (below_step (by repeat (first|(with_reducible first|exact HB.out|apply zC|apply zE|apply zD)|exact HB.out)) hb); clear HB HOD; have HO := n0_; have HB := n1_; have HOD := zA hod; have HD0 := zA hd0; have HL0 := zA hl0; clear n0_ n1_ hb ho6 hd0 hl0 hod))
    have h0 := H01.out.1
    have h1 := H01.out.2
    go_loopg [35] a0.toNat (fun kq v35 w' => ∃ (j : Int) (d : List Int),v35 = .int .i64 j ∧ kq = (a0 - j).toNat ∧ Aside0 (0 ≤ j ∧ j ≤ a0) ∧ Aside0 (d = List.replicate j.toNat (-1) ++ List.replicate (a0.toNat - j.toNat) 0) ∧ Aside0 (d.length = d0.length) ∧ Aside0 (Kd.R (Kd.int .i64) 3 w' w.heap.size (fun _ => True) (.slice (some ⟨g32,0,none⟩) d0.length c32) d) ∧ Aside0 (Kd.R (Kd.int .i64) 3 w' w.heap.size (fun k_ => k_ ≠ g32) (.slice (some ⟨g7,0,none⟩) dd.length c7) dd) ∧ Aside0 (Below w.heap.size w w'))
    case atStart => exact ⟨0,d0,rfl,by omega,⟨by omega⟩,⟨by rw [HD0.out]; simp⟩,⟨rfl⟩,⟨(rrA20 HO.out)⟩,⟨(rrA20 HOD.out)⟩,⟨(by repeat (first|(with_reducible first|exact HB.out|apply zC|apply zE|apply zD)|exact HB.out))⟩⟩
    case round =>
     clear HO HOD HB
     obtain ⟨j,d,rfl,rfl,hj,hd,hld2,HO,HOD,HB⟩ := hrel
     have hj0 := hj.out.1
     have hj1 := hj.out.2
     have hld : d.length = d0.length := hld2.out
     have hl0 := HL0.out
     clear hld2
     by_cases c : j < (d0.length : Int)
     ·
      have c0 : decide (j < (d0.length : Int)) = true := decide_eq_true c
      have hw1 : IntKind.i64.wrap (j + 1) = j + 1 := by rw [IntKind.wrap_i64]; omega
      have p0 : 0 ≤ j := by omega
      have q0 : j < (d0.length : Int) := c
      obtain ⟨hx0,hf0⟩ := Kd.R_celln 0 HO.out j p0 q0
      have HP := Kd.R_putn HO.out j (-1)
      have hjn : j.toNat < a0.toNat := by omega
      replace hjn := zA hjn
      replace p0 := eq_true p0
      replace q0 := eq_true q0
      replace hld := zA hld
      replace hl0 := zA hl0
      replace HP := zA HP
      clear c; go_wp2
      go_roundg ((a0 - (j + 1)).toNat)
      case measure => have := hjn.out; omega
      case rel => exact ⟨j + 1,d.set j.toNat (-1),by first|rfl | rw [hw1],rfl,⟨by have := hjn.out; omega⟩,⟨by rw [hd.out,show (j + 1).toNat = j.toNat + 1 by omega]; exact impl_TreeOf.fill_step j.toNat a0.toNat hjn.out⟩,⟨by rw [List.length_set]; exact hld.out⟩,⟨HP.out⟩,⟨zB (p := ⟨g32,j.toNat,none⟩) HOD.out (fun _ hk => hk) (.int .i64 (-1))⟩,⟨below_set HB.out GB32.out⟩⟩
     ·
      have c0 : decide (j < (d0.length : Int)) = false := decide_eq_false c
      have hd1 : d = List.replicate a0.toNat (-1) := by rw [hd.out,show j.toNat = a0.toNat by omega,Nat.sub_self]; simp
      have H2 := zA (show l1.foldl (impl_TreeOf.road a2 dd) d = r by rw [hd1]; exact H'.out)
      have HLD := zA hld
      replace hl0 := zA hl0
      clear hd hld hj hj0 hj1 c hd1; go_wp2
      go_loopg [44] l1.length (fun kq v44 w' => ∃ (j : Int) (t : List Int),v44 = .int .i64 j ∧ kq = l1.length - j.toNat ∧ Aside0 (0 ≤ j ∧ j ≤ (l1.length : Int)) ∧ Aside0 ((l1.drop j.toNat).foldl (impl_TreeOf.road a2 dd) t = r) ∧ Aside0 (t.length = d0.length) ∧ Aside0 (Kd.R (Kd.int .i64) 3 w' w.heap.size (fun _ => True) (.slice (some ⟨g32,0,none⟩) d0.length c32) t) ∧ Aside0 (Kd.R (Kd.int .i64) 3 w' w.heap.size (fun k_ => k_ ≠ g32) (.slice (some ⟨g7,0,none⟩) dd.length c7) dd) ∧ Aside0 (Below w.heap.size w w'))
      case atStart => exact ⟨0,d,rfl,by simp,⟨by omega⟩,⟨by simpa using H2.out⟩,HLD,⟨(rrA20 HO.out)⟩,⟨(rrA20 HOD.out)⟩,⟨(by repeat (first|(with_reducible first|exact HB.out|apply zC|apply zE|apply zD)|exact HB.out))⟩⟩
      case round =>
       clear HO HOD HB HLD H2 H'
       obtain ⟨j,t,rfl,rfl,hj,hf,hld,HO,HOD,HB⟩ := hrel
       have hj0 := hj.out.1
       have hj1 := hj.out.2
       by_cases c : j < (l1.length : Int)
       ·
        have c0 : decide (j < (l1.length : Int)) = true := decide_eq_true c
        have hw1 : IntKind.i64.wrap (j + 1) = j + 1 := by rw [IntKind.wrap_i64]; omega
        have hjn : j.toNat < l1.length := by omega
        have hdr : l1.drop j.toNat = (rd_T38 l1 j) :: l1.drop (j.toNat + 1) := by
         rw [List.drop_eq_getElem_cons hjn]; congr 1; unfold rd_T38; rw [List.getD_eq_getElem?_getD,List.getElem?_eq_getElem hjn]; rfl
        have hin := HA.out _ (show rd_T38 l1 j ∈ l1 by unfold rd_T38; rw [List.getD_eq_getElem?_getD,List.getElem?_eq_getElem hjn]; exact List.getElem_mem hjn)
        obtain ⟨ad,e,hx0,hx1,hx2⟩ := at_T38 HR1.out j hj0 c
        subst e
        replace hx0 := (HB.out.cell (World.block_lt_of_cell? w _ hx0)).trans hx0
        replace hx1 := (HB.out.cell (World.block_lt_of_cell? w _ hx1)).trans hx1
        replace hx2 := (HB.out.cell (World.block_lt_of_cell? w _ hx2)).trans hx2
        obtain ⟨A,hAe⟩ : ∃ A,A = (rd_T38 l1 j).f0 := ⟨_,rfl⟩
        obtain ⟨B,hBe⟩ : ∃ B,B = (rd_T38 l1 j).f1 := ⟨_,rfl⟩
        obtain ⟨C,hCe⟩ : ∃ C,C = (rd_T38 l1 j).f2 := ⟨_,rfl⟩
        rw [← hAe] at hx0
        rw [← hBe] at hx1
        rw [← hCe] at hx2
        replace hin := of_decide_eq_true hin
        rw [← hAe,← hBe] at hin
        have hA0 : 0 ≤ A := hin.1
        have hA1 : A < (d0.length : Int) := by have := HL0.out; have := hin.2.1; omega
        have hB0 : 0 ≤ B := hin.2.2.1
        have hB1 : B < (d0.length : Int) := by have := HL0.out; have := hin.2.2.2; omega
        replace hf := hf.out
        rw [hdr,List.foldl_cons] at hf
        have hrd : impl_TreeOf.road a2 dd t (rd_T38 l1 j) = impl_TreeOf.ways a2 dd 0 t A B C := by rw [hAe,hBe,hCe]; rfl
        rw [hrd] at hf
        obtain ⟨Q,hQ⟩ : ∃ Q,Q = impl_TreeOf.ways a2 dd 0 t A B C := ⟨_,rfl⟩
        rw [← hQ] at hf
        replace hf := zA hf
        replace hQ := zA hQ
        have HDD := zA (show dd.length = d0.length by rw [HDL.out,HL0.out])
        replace hA0 := zA hA0
        replace hA1 := zA hA1
        replace hB0 := zA hB0
        replace hB1 := zA hB1
        have p0 := eq_true hj0
        have q0 := eq_true c
        replace hjn := zA (And.intro hj0 hjn)
        clear hin hrd hAe hBe hCe hdr hj hj0 hj1 c
        go_wp2_with (first | ((with_reducible refine gate_dst (N := 11) rfl ?_); refine box_event ?hg (N := 11) ?hd (cs := #[.int .i64 0,.int .i64 0,.int .i64 0]) (t := 38) ?hr ?_; (case hd => rfl); (case hg => rfl); (case hr => first | (go_simp; done) | (go_simp; rfl)); intro gb11 hgb w8 hbox hb; have ge_ : w.heap.size ≤ gb11 := (by rw [hgb]; exact below_size (by repeat (first|(with_reducible first|exact HB.out|apply zC|apply zE|apply zD)|exact HB.out)));  have n0_ := zA (Kd.R_below (rrA20 HO.out) hb); have n2_ := zA (Kd.R_below (rrA20 HOD.out) hb); have n1_ := zA (below_step (by repeat (first|(with_reducible first|exact HB.out|apply zC|apply zE|apply zD)|exact HB.out)) hb); clear HO HOD HB; have HO := n0_; have HOD := n2_; have HB := n1_; have BK11 := zA hbox; have GE11 := zA ge_; clear n0_ n1_ n2_ hb hgb ge_ hbox; have hz11_0 := (blk_cell BK11.out 0).trans rfl; have hfz11_0 := blk_frozen BK11.out 0; have hz11_1 := (blk_cell BK11.out 1).trans rfl; have hfz11_1 := blk_frozen BK11.out 1; have hz11_2 := (blk_cell BK11.out 2).trans rfl; have hfz11_2 := blk_frozen BK11.out 2))
        clear hz11_0 hz11_1 hz11_2 hfz11_0 hfz11_1 hfz11_2 hx0 hx1 hx2
        go_loopg [59] 2 (fun kq v59 w' => ∃ (i : Int) (t2 : List Int),v59 = .int .i64 i ∧ kq = (2 - i).toNat ∧ Aside0 (i = 0 ∨ i = 1 ∨ i = 2) ∧ Aside0 (impl_TreeOf.ways a2 dd i t2 A B C = Q) ∧ Aside0 (w'.heap[gb11]? = some (.cells #[.int .i64 A,.int .i64 B,.int .i64 C] 38 (0,0))) ∧ Aside0 (t2.length = d0.length) ∧ Aside0 (Kd.R (Kd.int .i64) 3 w' w.heap.size (fun _ => True) (.slice (some ⟨g32,0,none⟩) d0.length c32) t2) ∧ Aside0 (Kd.R (Kd.int .i64) 3 w' w.heap.size (fun k_ => k_ ≠ g32) (.slice (some ⟨g7,0,none⟩) dd.length c7) dd) ∧ Aside0 (Below w.heap.size w w'))
        case atStart => exact ⟨0,t,rfl,rfl,⟨.inl rfl⟩,⟨hQ.out.symm⟩,⟨(blk_put (blk_put (blk_put BK11.out 0 (.int .i64 A) rfl) 1 (.int .i64 B) rfl) 2 (.int .i64 C) rfl)⟩,hld,⟨(Kd.R_mono (zB (p := ⟨gb11,2,none⟩) (zB (p := ⟨gb11,1,none⟩) (zB (p := ⟨gb11,0,none⟩) (Kd.R_types HO.out BK11.out (by decide)) (fun _ h=>h.2) (.int .i64 A)) (fun _ h=>h.2) (.int .i64 B)) (fun _ h=>h.2) (.int .i64 C)) (fun _ hk => trivial))⟩,⟨(Kd.R_mono (zB (p := ⟨gb11,2,none⟩) (zB (p := ⟨gb11,1,none⟩) (zB (p := ⟨gb11,0,none⟩) (Kd.R_types HOD.out BK11.out (by decide)) (fun _ h=>h.2) (.int .i64 A)) (fun _ h=>h.2) (.int .i64 B)) (fun _ h=>h.2) (.int .i64 C)) (fun _ hk => hk.1))⟩,⟨(below_set (below_set (below_set HB.out GE11.out) GE11.out) GE11.out)⟩⟩
        case round =>
         clear HO HOD HB BK11 hQ hld
         obtain ⟨i,t2,rfl,rfl,hi,hw,BK11,hld,HO,HOD,HB⟩ := hrel
         have hi2 := hi.out
         clear hi
         rcases hi2 with rfl|rfl|rfl
         ·
          have hz11_2 := (blk_cell BK11.out 2).trans rfl
          have hidx := fun W => impl_TreeOf.idx0 W A B B A
          go_wp2_with (first | ((with_reducible refine gate_dst (N := 13) rfl ?_); refine box_event ?hg (N := 13) ?hd (cs := #[.int .i64 0,.int .i64 0]) (t := 56) ?hr ?_; (case hd => rfl); (case hg => rfl); (case hr => first | (go_simp; done) | (go_simp; rfl)); intro gb13 hgb w10 hbox hb; have ge_ : w.heap.size ≤ gb13 := (by rw [hgb]; exact below_size (by repeat (first|(with_reducible first|exact HB.out|apply zC|apply zE|apply zD)|exact HB.out))); have ne11_ : gb11 ≠ gb13 := (by rw [hgb]; exact Nat.ne_of_lt (blk_lt (rrB20 BK11.out))); have nb11_ := blk_below (rrB20 BK11.out) hb; have n0_ := zA (Kd.R_below (rrA20 HO.out) hb); have n2_ := zA (Kd.R_below (rrA20 HOD.out) hb); have n1_ := zA (below_step (by repeat (first|(with_reducible first|exact HB.out|apply zC|apply zE|apply zD)|exact HB.out)) hb); clear HO HOD HB; have HO := n0_; have HOD := n2_; have HB := n1_; have BK13 := zA hbox; have GE13 := zA ge_; clear n0_ n1_ n2_ hb hgb ge_ hbox BK11; have BK11 := zA nb11_; have NE11_13 := zA ne11_; clear nb11_ ne11_; have hz13_0 := (blk_cell BK13.out 0).trans rfl; have hfz13_0 := blk_frozen BK13.out 0; have hz13_1 := (blk_cell BK13.out 1).trans rfl; have hfz13_1 := blk_frozen BK13.out 1))
          generalize hw11 : ((w10.setCell ⟨gb13,0,none⟩ (.int .i64 A)).setCell ⟨gb13,1,none⟩ (.int .i64 B)) = w11
          have n0_ : Aside0 (Kd.R (Kd.int .i64) 3 w11 w.heap.size (fun _ => True) (.slice (some ⟨g32,0,none⟩) d0.length c32) t2) := ⟨by rw [← hw11]; exact (Kd.R_mono (zB (p := ⟨gb13,1,none⟩) (zB (p := ⟨gb13,0,none⟩) (Kd.R_types HO.out BK13.out (by decide)) (fun _ h=>h.2) (.int .i64 A)) (fun _ h=>h.2) (.int .i64 B)) (fun _ hk => trivial))⟩
          have n4_ : Aside0 (Kd.R (Kd.int .i64) 3 w11 w.heap.size (fun k_ => k_ ≠ g32) (.slice (some ⟨g7,0,none⟩) dd.length c7) dd) := ⟨by rw [← hw11]; exact (Kd.R_mono (zB (p := ⟨gb13,1,none⟩) (zB (p := ⟨gb13,0,none⟩) (Kd.R_types HOD.out BK13.out (by decide)) (fun _ h=>h.2) (.int .i64 A)) (fun _ h=>h.2) (.int .i64 B)) (fun _ hk => hk.1))⟩
          have n1_ : Aside0 (Below w.heap.size w w11) := ⟨by rw [← hw11]; exact (below_set (below_set HB.out GE13.out) GE13.out)⟩
          have n2_ : Aside0 (w11.heap[gb11]? = some (.cells #[.int .i64 A,.int .i64 B,.int .i64 C] 38 (0,0))) := ⟨by rw [← hw11]; exact blk_far (blk_far BK11.out NE11_13.out _) NE11_13.out _⟩
          have n3_ : Aside0 (w11.heap[gb13]? = some (.cells #[.int .i64 A,.int .i64 B] 56 (0,0))) := ⟨by rw [← hw11]; exact (blk_put (blk_put BK13.out 0 (.int .i64 A) rfl) 1 (.int .i64 B) rfl)⟩
          clear HO HOD HB BK11 BK13 hz11_2 hz13_0 hz13_1 hfz13_0 hfz13_1 hidx hw11
          have HO := n0_
          have HOD := n4_
          have HB := n1_
          have BK11 := n2_
          have BK13 := n3_
          clear n0_ n1_ n2_ n3_ n4_
          have hz11_2 := (blk_cell BK11.out 2).trans rfl
          have hz13_0 := (blk_cell BK13.out 0).trans rfl
          have hz13_1 := (blk_cell BK13.out 1).trans rfl
          have hdd := HDD.out
          have ha1 := hA1.out
          have hb1 := hB1.out
          have hxa : w11.cell? ⟨g7,A.toNat,none⟩ = some (.int .i64 (rd dd A)) := (Kd.R_celln 0 HOD.out A hA0.out (by omega)).1
          have hxb : w11.cell? ⟨g7,B.toNat,none⟩ = some (.int .i64 (rd dd B)) := (Kd.R_celln 0 HOD.out B hB0.out (by omega)).1
          have hyb : w11.cell? ⟨g32,B.toNat,none⟩ = some (.int .i64 (rd t2 B)) := (Kd.R_celln 0 HO.out B hB0.out hB1.out).1
          have hfb : w11.frozen? ⟨g32,B.toNat,none⟩ = false := (Kd.R_celln 0 HO.out B hB0.out hB1.out).2
          have pA := eq_true hA0.out
          have pB := eq_true hB0.out
          have qB := eq_true hB1.out
          have qA2 := eq_true (show A < (dd.length : Int) by omega)
          have qB2 := eq_true (show B < (dd.length : Int) by omega)
          clear hdd ha1 hb1
          by_cases cc1 : B = a2
          ·
           have cc1b : (B == a2) = true := beq_iff_eq.mpr cc1
           replace cc1 := zA cc1
           go_quiet (fail)
           go_wp2
           go_quiet (fail)
           go_wp2
           go_roundg 1
           case measure => omega
           case rel => exact ⟨1,t2,rfl,rfl,⟨by omega⟩,⟨by rw [← hw.out,impl_TreeOf.ways0,impl_TreeOf.st_no (.inl cc1.out)]⟩,⟨(rrB20 BK11.out)⟩,hld,⟨(rrA20 HO.out)⟩,⟨(rrA20 HOD.out)⟩,⟨(by repeat (first|(with_reducible first|exact HB.out|apply zC|apply zE|apply zD)|exact HB.out))⟩⟩
          ·
           have cc1b : (B == a2) = false := beq_eq_false_iff_ne.mpr cc1
           replace cc1 := zA cc1
           by_cases cc2 : rd dd A < 0
           ·
            have cc2b : decide (rd dd A < 0) = true := decide_eq_true cc2
            replace cc2 := zA cc2
            go_quiet (fail)
            go_wp2
            go_quiet (fail)
            go_wp2
            go_roundg 1
            case measure => omega
            case rel => exact ⟨1,t2,rfl,rfl,⟨by omega⟩,⟨by rw [← hw.out,impl_TreeOf.ways0,impl_TreeOf.st_no (.inr (.inl cc2.out))]⟩,⟨(rrB20 BK11.out)⟩,hld,⟨(rrA20 HO.out)⟩,⟨(rrA20 HOD.out)⟩,⟨(by repeat (first|(with_reducible first|exact HB.out|apply zC|apply zE|apply zD)|exact HB.out))⟩⟩
           ·
            have cc2b : decide (rd dd A < 0) = false := decide_eq_false cc2
            replace cc2 := zA cc2
            by_cases cc3 : wrap64 (rd dd A + C) = rd dd B
            ·
             have cc3b : (wrap64 (rd dd A + C) != rd dd B) = false := bne_eq_false_iff_eq.mpr cc3
             replace cc3 := zA cc3
             by_cases cc4 : rd t2 B < 0
             ·
              have cc4b : decide (rd t2 B < 0) = true := decide_eq_true cc4
              replace cc4 := zA cc4
              have NE32 : gb11 ≠ g32 := fun e => ((Kd.R_types HO.out BK11.out (by decide)).1 g32 rfl).2 e.symm
              replace NE32 := zA NE32
              go_quiet (fail)
              go_wp2
              go_quiet (fail)
              go_wp2
              go_roundg 1
              case measure => omega
              case rel => exact ⟨1,t2.set B.toNat A,rfl,rfl,⟨by omega⟩,⟨by rw [← hw.out,impl_TreeOf.ways0,impl_TreeOf.st_yes cc1.out (by have := cc2.out; omega) cc3.out (.inl cc4.out)]⟩,⟨blk_far (rrB20 BK11.out) NE32.out _⟩,⟨by rw [List.length_set]; exact hld.out⟩,⟨Kd.R_putn (rrA20 HO.out) _ _⟩,⟨zB (p := ⟨g32,B.toNat,none⟩) (rrA20 HOD.out) (fun _ hk => hk) (.int .i64 A)⟩,⟨below_set (by repeat (first|(with_reducible first|exact HB.out|apply zC|apply zE|apply zD)|exact HB.out)) GB32.out⟩⟩
             ·
              have cc4b : decide (rd t2 B < 0) = false := decide_eq_false cc4
              replace cc4 := zA cc4
              by_cases cc5 : A < rd t2 B
              ·
               have cc5b : decide (A < rd t2 B) = true := decide_eq_true cc5
               replace cc5 := zA cc5
               have NE32 : gb11 ≠ g32 := fun e => ((Kd.R_types HO.out BK11.out (by decide)).1 g32 rfl).2 e.symm
               replace NE32 := zA NE32
               go_quiet (fail)
               go_wp2
               go_quiet (fail)
               go_wp2
               go_roundg 1
               case measure => omega
               case rel => exact ⟨1,t2.set B.toNat A,rfl,rfl,⟨by omega⟩,⟨by rw [← hw.out,impl_TreeOf.ways0,impl_TreeOf.st_yes cc1.out (by have := cc2.out; omega) cc3.out (.inr cc5.out)]⟩,⟨blk_far (rrB20 BK11.out) NE32.out _⟩,⟨by rw [List.length_set]; exact hld.out⟩,⟨Kd.R_putn (rrA20 HO.out) _ _⟩,⟨zB (p := ⟨g32,B.toNat,none⟩) (rrA20 HOD.out) (fun _ hk => hk) (.int .i64 A)⟩,⟨below_set (by repeat (first|(with_reducible first|exact HB.out|apply zC|apply zE|apply zD)|exact HB.out)) GB32.out⟩⟩
              ·
               have cc5b : decide (A < rd t2 B) = false := decide_eq_false cc5
               replace cc5 := zA cc5
               go_quiet (fail)
               go_wp2
               go_quiet (fail)
               go_wp2
               go_roundg 1
               case measure => omega
               case rel => exact ⟨1,t2,rfl,rfl,⟨by omega⟩,⟨by rw [← hw.out,impl_TreeOf.ways0,impl_TreeOf.st_same (by have := cc4.out; have := cc5.out; omega)]⟩,⟨(rrB20 BK11.out)⟩,hld,⟨(rrA20 HO.out)⟩,⟨(rrA20 HOD.out)⟩,⟨(by repeat (first|(with_reducible first|exact HB.out|apply zC|apply zE|apply zD)|exact HB.out))⟩⟩
            ·
             have cc3b : (wrap64 (rd dd A + C) != rd dd B) = true := bne_iff_ne.mpr cc3
             replace cc3 := zA cc3
             go_quiet (fail)
             go_wp2
             go_quiet (fail)
             go_wp2
             go_roundg 1
             case measure => omega
             case rel => exact ⟨1,t2,rfl,rfl,⟨by omega⟩,⟨by rw [← hw.out,impl_TreeOf.ways0,impl_TreeOf.st_no (.inr (.inr cc3.out))]⟩,⟨(rrB20 BK11.out)⟩,hld,⟨(rrA20 HO.out)⟩,⟨(rrA20 HOD.out)⟩,⟨(by repeat (first|(with_reducible first|exact HB.out|apply zC|apply zE|apply zD)|exact HB.out))⟩⟩
         ·
          have hz11_2 := (blk_cell BK11.out 2).trans rfl
          have hidx := fun W => impl_TreeOf.idx1 W A B B A
          go_wp2_with (first | ((with_reducible refine gate_dst (N := 13) rfl ?_); refine box_event ?hg (N := 13) ?hd (cs := #[.int .i64 0,.int .i64 0]) (t := 56) ?hr ?_; (case hd => rfl); (case hg => rfl); (case hr => first | (go_simp; done) | (go_simp; rfl)); intro gb13 hgb w10 hbox hb; have ge_ : w.heap.size ≤ gb13 := (by rw [hgb]; exact below_size (by repeat (first|(with_reducible first|exact HB.out|apply zC|apply zE|apply zD)|exact HB.out))); have ne11_ : gb11 ≠ gb13 := (by rw [hgb]; exact Nat.ne_of_lt (blk_lt (rrB20 BK11.out))); have nb11_ := blk_below (rrB20 BK11.out) hb; have n0_ := zA (Kd.R_below (rrA20 HO.out) hb); have n2_ := zA (Kd.R_below (rrA20 HOD.out) hb); have n1_ := zA (below_step (by repeat (first|(with_reducible first|exact HB.out|apply zC|apply zE|apply zD)|exact HB.out)) hb); clear HO HOD HB; have HO := n0_; have HOD := n2_; have HB := n1_; have BK13 := zA hbox; have GE13 := zA ge_; clear n0_ n1_ n2_ hb hgb ge_ hbox BK11; have BK11 := zA nb11_; have NE11_13 := zA ne11_; clear nb11_ ne11_; have hz13_0 := (blk_cell BK13.out 0).trans rfl; have hfz13_0 := blk_frozen BK13.out 0; have hz13_1 := (blk_cell BK13.out 1).trans rfl; have hfz13_1 := blk_frozen BK13.out 1))
          generalize hw11 : ((w10.setCell ⟨gb13,0,none⟩ (.int .i64 B)).setCell ⟨gb13,1,none⟩ (.int .i64 A)) = w11
          have n0_ : Aside0 (Kd.R (Kd.int .i64) 3 w11 w.heap.size (fun _ => True) (.slice (some ⟨g32,0,none⟩) d0.length c32) t2) := ⟨by rw [← hw11]; exact (Kd.R_mono (zB (p := ⟨gb13,1,none⟩) (zB (p := ⟨gb13,0,none⟩) (Kd.R_types HO.out BK13.out (by decide)) (fun _ h=>h.2) (.int .i64 B)) (fun _ h=>h.2) (.int .i64 A)) (fun _ hk => trivial))⟩
          have n4_ : Aside0 (Kd.R (Kd.int .i64) 3 w11 w.heap.size (fun k_ => k_ ≠ g32) (.slice (some ⟨g7,0,none⟩) dd.length c7) dd) := ⟨by rw [← hw11]; exact (Kd.R_mono (zB (p := ⟨gb13,1,none⟩) (zB (p := ⟨gb13,0,none⟩) (Kd.R_types HOD.out BK13.out (by decide)) (fun _ h=>h.2) (.int .i64 B)) (fun _ h=>h.2) (.int .i64 A)) (fun _ hk => hk.1))⟩
          have n1_ : Aside0 (Below w.heap.size w w11) := ⟨by rw [← hw11]; exact (below_set (below_set HB.out GE13.out) GE13.out)⟩
          have n2_ : Aside0 (w11.heap[gb11]? = some (.cells #[.int .i64 A,.int .i64 B,.int .i64 C] 38 (0,0))) := ⟨by rw [← hw11]; exact blk_far (blk_far BK11.out NE11_13.out _) NE11_13.out _⟩
          have n3_ : Aside0 (w11.heap[gb13]? = some (.cells #[.int .i64 B,.int .i64 A] 56 (0,0))) := ⟨by rw [← hw11]; exact (blk_put (blk_put BK13.out 0 (.int .i64 B) rfl) 1 (.int .i64 A) rfl)⟩
          clear HO HOD HB BK11 BK13 hz11_2 hz13_0 hz13_1 hfz13_0 hfz13_1 hidx hw11
          have HO := n0_
          have HOD := n4_
          have HB := n1_
          have BK11 := n2_
          have BK13 := n3_
          clear n0_ n1_ n2_ n3_ n4_
          have hz11_2 := (blk_cell BK11.out 2).trans rfl
          have hz13_0 := (blk_cell BK13.out 0).trans rfl
          have hz13_1 := (blk_cell BK13.out 1).trans rfl
          have hdd := HDD.out
          have ha1 := hA1.out
          have hb1 := hB1.out
          have hxa : w11.cell? ⟨g7,B.toNat,none⟩ = some (.int .i64 (rd dd B)) := (Kd.R_celln 0 HOD.out B hB0.out (by omega)).1
          have hxb : w11.cell? ⟨g7,A.toNat,none⟩ = some (.int .i64 (rd dd A)) := (Kd.R_celln 0 HOD.out A hA0.out (by omega)).1
          have hyb : w11.cell? ⟨g32,A.toNat,none⟩ = some (.int .i64 (rd t2 A)) := (Kd.R_celln 0 HO.out A hA0.out hA1.out).1
          have hfb : w11.frozen? ⟨g32,A.toNat,none⟩ = false := (Kd.R_celln 0 HO.out A hA0.out hA1.out).2
          have pA := eq_true hB0.out
          have pB := eq_true hA0.out
          have qB := eq_true hA1.out
          have qA2 := eq_true (show B < (dd.length : Int) by omega)
          have qB2 := eq_true (show A < (dd.length : Int) by omega)
          clear hdd ha1 hb1
          by_cases cc1 : A = a2
          ·
           have cc1b : (A == a2) = true := beq_iff_eq.mpr cc1
           replace cc1 := zA cc1
           go_quiet (fail)
           go_wp2
           go_quiet (fail)
           go_wp2
           go_roundg 0
           case measure => omega
           case rel => exact ⟨2,t2,rfl,rfl,⟨by omega⟩,⟨by rw [← hw.out,impl_TreeOf.ways1,impl_TreeOf.st_no (.inl cc1.out)]⟩,⟨(rrB20 BK11.out)⟩,hld,⟨(rrA20 HO.out)⟩,⟨(rrA20 HOD.out)⟩,⟨(by repeat (first|(with_reducible first|exact HB.out|apply zC|apply zE|apply zD)|exact HB.out))⟩⟩
          ·
           have cc1b : (A == a2) = false := beq_eq_false_iff_ne.mpr cc1
           replace cc1 := zA cc1
           by_cases cc2 : rd dd B < 0
           ·
            have cc2b : decide (rd dd B < 0) = true := decide_eq_true cc2
            replace cc2 := zA cc2
            go_quiet (fail)
            go_wp2
            go_quiet (fail)
            go_wp2
            go_roundg 0
            case measure => omega
            case rel => exact ⟨2,t2,rfl,rfl,⟨by omega⟩,⟨by rw [← hw.out,impl_TreeOf.ways1,impl_TreeOf.st_no (.inr (.inl cc2.out))]⟩,⟨(rrB20 BK11.out)⟩,hld,⟨(rrA20 HO.out)⟩,⟨(rrA20 HOD.out)⟩,⟨(by repeat (first|(with_reducible first|exact HB.out|apply zC|apply zE|apply zD)|exact HB.out))⟩⟩
           ·
            have cc2b : decide (rd dd B < 0) = false := decide_eq_false cc2
            replace cc2 := zA cc2
            by_cases cc3 : wrap64 (rd dd B + C) = rd dd A
            ·
             have cc3b : (wrap64 (rd dd B + C) != rd dd A) = false := bne_eq_false_iff_eq.mpr cc3
             replace cc3 := zA cc3
             by_cases cc4 : rd t2 A < 0
             ·
              have cc4b : decide (rd t2 A < 0) = true := decide_eq_true cc4
              replace cc4 := zA cc4
              have NE32 : gb11 ≠ g32 := fun e => ((Kd.R_types HO.out BK11.out (by decide)).1 g32 rfl).2 e.symm
              replace NE32 := zA NE32
              go_quiet (fail)
              go_wp2
              go_quiet (fail)
              go_wp2
              go_roundg 0
              case measure => omega
              case rel => exact ⟨2,t2.set A.toNat B,rfl,rfl,⟨by omega⟩,⟨by rw [← hw.out,impl_TreeOf.ways1,impl_TreeOf.st_yes cc1.out (by have := cc2.out; omega) cc3.out (.inl cc4.out)]⟩,⟨blk_far (rrB20 BK11.out) NE32.out _⟩,⟨by rw [List.length_set]; exact hld.out⟩,⟨Kd.R_putn (rrA20 HO.out) _ _⟩,⟨zB (p := ⟨g32,A.toNat,none⟩) (rrA20 HOD.out) (fun _ hk => hk) (.int .i64 B)⟩,⟨below_set (by repeat (first|(with_reducible first|exact HB.out|apply zC|apply zE|apply zD)|exact HB.out)) GB32.out⟩⟩
             ·
              have cc4b : decide (rd t2 A < 0) = false := decide_eq_false cc4
              replace cc4 := zA cc4
              by_cases cc5 : B < rd t2 A
              ·
               have cc5b : decide (B < rd t2 A) = true := decide_eq_true cc5
               replace cc5 := zA cc5
               have NE32 : gb11 ≠ g32 := fun e => ((Kd.R_types HO.out BK11.out (by decide)).1 g32 rfl).2 e.symm
               replace NE32 := zA NE32
               go_quiet (fail)
               go_wp2
               go_quiet (fail)
               go_wp2
               go_roundg 0
               case measure => omega
               case rel => exact ⟨2,t2.set A.toNat B,rfl,rfl,⟨by omega⟩,⟨by rw [← hw.out,impl_TreeOf.ways1,impl_TreeOf.st_yes cc1.out (by have := cc2.out; omega) cc3.out (.inr cc5.out)]⟩,⟨blk_far (rrB20 BK11.out) NE32.out _⟩,⟨by rw [List.length_set]; exact hld.out⟩,⟨Kd.R_putn (rrA20 HO.out) _ _⟩,⟨zB (p := ⟨g32,A.toNat,none⟩) (rrA20 HOD.out) (fun _ hk => hk) (.int .i64 B)⟩,⟨below_set (by repeat (first|(with_reducible first|exact HB.out|apply zC|apply zE|apply zD)|exact HB.out)) GB32.out⟩⟩
              ·
               have cc5b : decide (B < rd t2 A) = false := decide_eq_false cc5
               replace cc5 := zA cc5
               go_quiet (fail)
               go_wp2
               go_quiet (fail)
               go_wp2
               go_roundg 0
               case measure => omega
               case rel => exact ⟨2,t2,rfl,rfl,⟨by omega⟩,⟨by rw [← hw.out,impl_TreeOf.ways1,impl_TreeOf.st_same (by have := cc4.out; have := cc5.out; omega)]⟩,⟨(rrB20 BK11.out)⟩,hld,⟨(rrA20 HO.out)⟩,⟨(rrA20 HOD.out)⟩,⟨(by repeat (first|(with_reducible first|exact HB.out|apply zC|apply zE|apply zD)|exact HB.out))⟩⟩
            ·
             have cc3b : (wrap64 (rd dd B + C) != rd dd A) = true := bne_iff_ne.mpr cc3
             replace cc3 := zA cc3
             go_quiet (fail)
             go_wp2
             go_quiet (fail)
             go_wp2
             go_roundg 0
             case measure => omega
             case rel => exact ⟨2,t2,rfl,rfl,⟨by omega⟩,⟨by rw [← hw.out,impl_TreeOf.ways1,impl_TreeOf.st_no (.inr (.inr cc3.out))]⟩,⟨(rrB20 BK11.out)⟩,hld,⟨(rrA20 HO.out)⟩,⟨(rrA20 HOD.out)⟩,⟨(by repeat (first|(with_reducible first|exact HB.out|apply zC|apply zE|apply zD)|exact HB.out))⟩⟩
         ·
          go_wp2
          go_roundg (l1.length - (j + 1).toNat)
          case measure => have := hjn.out; omega
          case rel => exact ⟨j + 1,t2,by first|rfl | rw [hw1],rfl,⟨by have := hjn.out; omega⟩,⟨by rw [← hf.out,← hw.out,impl_TreeOf.ways2,show (j + 1).toNat = j.toNat + 1 by have := hjn.out; omega]⟩,hld,⟨(rrA20 HO.out)⟩,⟨(rrA20 HOD.out)⟩,⟨(by repeat (first|(with_reducible first|exact HB.out|apply zC|apply zE|apply zD)|exact HB.out))⟩⟩
       ·
        have c0 : decide (j < (l1.length : Int)) = false := decide_eq_false c
        have hP2 : t = r := by rw [← hf.out,List.drop_eq_nil_of_le (by omega)]; rfl
        subst hP2
        clear hf; go_wp2
        go_ret
        exact ⟨_,rfl,(rrA20 HO.out),(by repeat (first|(with_reducible first|exact HB.out|apply zC|apply zE|apply zD)|exact HB.out))⟩

end Go.Proofs.Ytokoihmjcfhemaa.PFnExactSpread
