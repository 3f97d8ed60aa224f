-- Written by a program out of the translation,for this claim.
import Derived.Test.YtokoihmjcfhemaaPFnExactSpreadx0
namespace Go.Proofs.Ytokoihmjcfhemaa.PFnExactSpread
open Go.RowKit Go.Proofs.YtokoihmjcfhemaaW.PrintWords Go.Proofs.YtokoihmjcfhemaaW.PrintLast Go.Proofs.YtokoihmjcfhemaaW.PrintMore
attribute [local go_sem] max2_int min2_int max_two min_two max_three min_three max_four min_four   -- for this text's walks alone
set_option linter.unusedVariables false
set_option linter.unusedSimpArgs false
theorem rrA19 {p q : Prop} (h : p) (f : p → q := by (intro h_; (with_reducible repeat (first | apply Kd.R_alloc | apply Kd.R_drewN | apply Kd.R_drew)); exact h_)) : q := f h
theorem rrB19 {p q : Prop} (h : p) (f : p → q := by (intro h_; (with_reducible repeat (first | refine blk_drewN ?_ _ | refine blk_drew ?_ | refine blk_alloc ?_ _)); exact h_)) : q := f h
open Go.Proofs.YtokoihmjcfhemaaW.PrintWords.Aside0 renaming mk → zA
open Go.Proofs.YtokoihmjcfhemaaW.PrintWords renaming below_alloc → zB
open Go.Proofs.YtokoihmjcfhemaaW.PrintWords renaming below_drew1 → zC
open Go.Proofs.YtokoihmjcfhemaaW.PrintWords renaming pw_below_drewN → zD

/-! ### impl_distances: function 37,by hand -/
/-- One way of a road: does it make its end's distance less? -/
def impl_distances.rel (p : List Int × Bool) (a b c : Int) : List Int × Bool := if 0 ≤ rd p.1 a ∧ (rd p.1 b < 0 ∨ wrap64 (rd p.1 a + c) < rd p.1 b) then (p.1.set b.toNat (wrap64 (rd p.1 a + c)),true) else p
def impl_distances.road (p : List Int × Bool) (r : S38) : List Int × Bool := impl_distances.rel (impl_distances.rel p r.f0 r.f1 r.f2) r.f1 r.f0 r.f2
def impl_distances.go : Nat → List S38 → List Int → Option (List Int)
  | 0,_,_ => none
  | k + 1,l,d => if (l.foldl impl_distances.road (d,false)).2 = true then impl_distances.go k l (l.foldl impl_distances.road (d,false)).1 else some (l.foldl impl_distances.road (d,false)).1
def impl_distances.f (k : Nat) (a0 : Int) (l1 : List S38) (a2 : Int) : Option (List Int) :=
  if (0 ≤ a0 ∧ a0 ≤ 1000000 ∧ 0 ≤ a2 ∧ a2 < a0 ∧ l1.length ≤ 1000000) ∧ l1.all (fun r => decide (0 ≤ r.f0 ∧ r.f0 < a0 ∧ 0 ≤ r.f1 ∧ r.f1 < a0)) = true then impl_distances.go k l1 ((List.replicate a0.toNat (-1)).set a2.toNat 0) else none
theorem impl_distances.go_mono : ∀ k l d,LeO (impl_distances.go k l d) (impl_distances.go (k + 1) l d)
  | 0,_,_ => fun r h => by simp [impl_distances.go] at h
  | k + 1,l,d => by
   unfold impl_distances.go
   split
   · exact impl_distances.go_mono k l _
   · exact LeO.refl _
theorem impl_distances.mono : ∀ a0 a1 a2 k,LeO (impl_distances.f k a0 a1 a2) (impl_distances.f (k + 1) a0 a1 a2) := by
  intro a0 a1 a2 k
  unfold impl_distances.f
  split
  · exact impl_distances.go_mono k _ _
  · exact LeO.refl _
theorem impl_distances.rel_len (p : List Int × Bool) (a b c : Int) : (impl_distances.rel p a b c).1.length = p.1.length := by unfold impl_distances.rel; split <;> simp
theorem impl_distances.road_len (l : List S38) : ∀ p : List Int × Bool,(l.foldl impl_distances.road p).1.length = p.1.length := by
  induction l with
  | nil => intro p; rfl
  | cons r l ih => intro p; rw [List.foldl_cons,ih]; unfold impl_distances.road; rw [impl_distances.rel_len,impl_distances.rel_len]
theorem impl_distances.fill_step (j n : Nat) (h : j < n) : (List.replicate j (-1 : Int) ++ List.replicate (n - j) 0).set j (-1) = List.replicate (j + 1) (-1) ++ List.replicate (n - (j + 1)) 0 := by
  rw [List.set_append_right _ _ (by simp),List.length_replicate,Nat.sub_self,show n - j = (n - (j + 1)) + 1 by omega,List.replicate_succ,List.set_cons_zero,List.replicate_succ',List.append_assoc]
  rfl
def impl_distances.ways (i : Int) (p : List Int × Bool) (A B C : Int) : List Int × Bool := if i = 0 then impl_distances.rel (impl_distances.rel p A B C) B A C else if i = 1 then impl_distances.rel p B A C else p
theorem impl_distances.idx0 (W : World) (a b c d : Int) : Sem.run Try.prog (Instr.index 57 (.agg #[.int .i64 a,.int .i64 b,.int .i64 c,.int .i64 d]) (.int .i64 0)) W = .ok (.agg #[.int .i64 a,.int .i64 b]) W := by
  obtain ⟨i0,h0,h1⟩ := Option.map_eq_some_iff.1 (show (Try.prog.info? 56).map (·.size) = some 2 by kernel_rfl)
  simp [Instr.index,run_underlying Try.underlying57,run_underlying Try.underlying56,Go.sizeOf,typeInfo,h0,h1,part,isAgg,asIntOf]
theorem impl_distances.idx1 (W : World) (a b c d : Int) : Sem.run Try.prog (Instr.index 57 (.agg #[.int .i64 a,.int .i64 b,.int .i64 c,.int .i64 d]) (.int .i64 1)) W = .ok (.agg #[.int .i64 c,.int .i64 d]) W := by
  obtain ⟨i0,h0,h1⟩ := Option.map_eq_some_iff.1 (show (Try.prog.info? 56).map (·.size) = some 2 by kernel_rfl)
  simp [Instr.index,run_underlying Try.underlying57,run_underlying Try.underlying56,Go.sizeOf,typeInfo,h0,h1,part,isAgg,asIntOf]
theorem impl_distances.rel_no {p : List Int × Bool} {a b c : Int} (h : ¬ (0 ≤ rd p.1 a ∧ (rd p.1 b < 0 ∨ wrap64 (rd p.1 a + c) < rd p.1 b))) : impl_distances.rel p a b c = p := by unfold impl_distances.rel; rw [if_neg h]
theorem impl_distances.rel_yes {p : List Int × Bool} {a b c : Int} (h : 0 ≤ rd p.1 a ∧ (rd p.1 b < 0 ∨ wrap64 (rd p.1 a + c) < rd p.1 b)) : impl_distances.rel p a b c = (p.1.set b.toNat (wrap64 (rd p.1 a + c)),true) := by unfold impl_distances.rel; rw [if_pos h]
theorem impl_distances.ways0 (p : List Int × Bool) (A B C : Int) : impl_distances.ways 0 p A B C = impl_distances.ways 1 (impl_distances.rel p A B C) A B C := by simp [impl_distances.ways]
theorem impl_distances.ways1 (p : List Int × Bool) (A B C : Int) : impl_distances.ways 1 p A B C = impl_distances.ways 2 (impl_distances.rel p B A C) A B C := by simp [impl_distances.ways]
theorem impl_distances.ways2 (p : List Int × Bool) (A B C : Int) : impl_distances.ways 2 p A B C = p := by simp [impl_distances.ways]
set_option maxHeartbeats 8000000 in
set_option maxRecDepth 100000 in
theorem impl_distances.calls (k : Nat) (a0 : Int) (A1 : Option Addr) (c1 : Nat) (l1 : List S38) (a2 : Int) (r : List Int) (w : World) (hr1 : Kd.C k38 w A1 l1.length l1) (hc1 : l1.length ≤ c1) (h : impl_distances.f k a0 l1 a2 = some r) :
   Calls Try.prog 37 #[.int .i64 a0,.slice A1 l1.length c1,.int .i64 a2] w fun e w' => ∃ v0_ : Value,e = .returned (v0_) ∧ Kd.R (Kd.int .i64) 3 w' w.heap.size (fun _ => True) v0_ r ∧ Below w.heap.size w w' := by
  have hu38 := Try.underlying38
  have hu56 := Try.underlying56
  have hu57 := Try.underlying57
  unfold impl_distances.f at h
  by_cases hc : (0 ≤ a0 ∧ a0 ≤ 1000000 ∧ 0 ≤ a2 ∧ a2 < a0 ∧ l1.length ≤ 1000000) ∧ l1.all (fun r => decide (0 ≤ r.f0 ∧ r.f0 < a0 ∧ 0 ≤ r.f1 ∧ r.f1 < a0)) = true
  case neg => rw [if_neg hc] at h; cases h
  rw [if_pos hc] at h
  obtain ⟨⟨h0,h1,h2,h3,h5⟩,h4⟩ := hc
  have HR1 := zA hr1
  have HC1 := zA hc1
  have HB := zA (Below.refl w.heap.size w)
  have H' := zA h
  have HA := zA (List.all_eq_true.1 h4)
  clear hr1 hc1 h h4
  have hn0 : decide (0 ≤ a0) = true := decide_eq_true h0
  have hn1 : decide (a0.toNat ≤ 35184372088832) = true := decide_eq_true (by omega)
  go_enter Try.func37,Try.ntmps37
  go_wp2_with (first | ((with_reducible refine gate_dst (N := 17) rfl ?_); refine Kd.R_make (Kd.int .i64) _ 3 rfl (N := 17) rfl 24 _ _ rfl a0 rfl rfl Try.underlying24 (.int .i64 0) 8 info3 rfl (by decide) (by omega) 0 (ok := fun _ => True) (okp := fun _ => True) rfl (fun _ hk => hk) trivial (of_decide_eq_true (by first|(with_reducible assumption) | assumption)) (Nat.le_trans (Nat.mul_le_mul_right _ (of_decide_eq_true (by first|(with_reducible assumption) | assumption) : a0.toNat ≤ 35184372088832)) (by omega)) (Below.refl _ _) (Nat.le_refl _) ?_; intro v17 w5 ho6 hb hg_ hnew_; clear hg_ hnew_; replace ho6 := Kd.R_lower ho6 (below_size (by repeat (first|(with_reducible first|exact HB.out|apply zB|apply zD|apply zC)|exact HB.out))); obtain ⟨d0,hd0⟩ : ∃ d0,d0 = List.replicate a0.toNat (0 : Int) := ⟨_,rfl⟩; rw [← hd0] at ho6; have hl0 : d0.length = a0.toNat := (by rw [hd0,List.length_replicate]); obtain ⟨g17,c17,eq17,gb17,gl17,cl17,HG17⟩ := Kd.R_form ho6 (by omega); subst eq17; have GB17 := zA gb17; have GL17 := zA gl17; clear gb17 gl17 cl17 HG17; have n0_ := zA ho6; have n1_ := zA (below_step (by repeat (first|(with_reducible first|exact HB.out|apply zB|apply zD|apply zC)|exact HB.out)) hb); clear HB; have HO := n0_; have HB := n1_; have HD0 := zA hd0; have HL0 := zA hl0; clear n0_ n1_ hb ho6 hd0 hl0))
  go_loopg [20] a0.toNat (fun kq v20 w' => ∃ (j : Int) (d : List Int),v20 = .int .i64 j ∧ kq = (a0 - j).toNat ∧ Aside0 (0 ≤ j ∧ j ≤ a0) ∧ Aside0 (d = List.replicate j.toNat (-1) ++ List.replicate (a0.toNat - j.toNat) 0) ∧ Aside0 (Kd.R (Kd.int .i64) 3 w' w.heap.size (fun _ => True) (.slice (some ⟨g17,0,none⟩) d0.length c17) d) ∧ Aside0 (Below w.heap.size w w'))
  case atStart => exact ⟨0,d0,rfl,by omega,⟨by omega⟩,⟨by rw [HD0.out]; simp⟩,⟨(rrA19 HO.out)⟩,⟨(by repeat (first|(with_reducible first|exact HB.out|apply zB|apply zD|apply zC)|exact HB.out))⟩⟩
  case round =>
   obtain ⟨j,d,rfl,rfl,hj,hd,HO,HB⟩ := hrel
   have hj0 := hj.out.1
   have hj1 := hj.out.2
   have hld : d.length = a0.toNat := by rw [hd.out]; simp; omega
   have hl0 := HL0.out
   by_cases c : j < (d0.length : Int)
   ·
    have c0 : decide (j < (d0.length : Int)) = true := decide_eq_true c
    have hw1 : IntKind.i64.wrap (j + 1) = j + 1 := by rw [IntKind.wrap_i64]; omega
    have p0 : 0 ≤ j := by omega
    have q0 : j < (d.length : Int) := by omega
    have HO2 : Aside0 (Kd.R (Kd.int .i64) 3 wr w.heap.size (fun _ => True) (.slice (some ⟨g17,0,none⟩) d.length c17) d) := ⟨by rw [show d.length = d0.length by omega]; exact HO.out⟩
    obtain ⟨hx0,hf0⟩ := Kd.R_celln 0 HO2.out j p0 q0
    have HP := Kd.R_putg HO2.out j (-1)
    rw [show d.length = d0.length by omega] at HP
    clear HO2
    have q1 : j < (d0.length : Int) := by omega
    have hjn : j.toNat < a0.toNat := by omega
    replace hjn := zA hjn
    replace p0 := eq_true p0
    replace q1 := eq_true q1
    replace hld := zA hld
    replace hl0 := zA hl0
    clear q0 c
    go_wp2_with (first | ((with_reducible refine gate_store (t := 3) (p := 25) rfl ?_); refine store_event (t := 3) (p := 25) (v := ?vo_) (w1 := (wr.setCell ⟨g17,(j : Int).toNat,none⟩ (.int .i64 (-1)))) ?hg ?ho ?hn ?hr ?_; (case ho => rfl); (case hg => rfl); (case hn => rfl); (case hr => first | (go_simp; done) | (go_simp; rfl)); intro w6 hw; have hg : wr.grownBy w6 (some g17) := (by rw [hw]; exact HP.2); have hp_ : Kd.R (Kd.int .i64) 3 w6 w.heap.size (fun _ => True) (.slice (some ⟨g17,0,none⟩) d0.length c17) (d.set j.toNat (-1)) := (by rw [hw]; exact HP.1); clear HP; have n0_ := zA hp_; have n1_ := zA ((by rw [hw]; exact below_set (HB.out) GB17.out : Below w.heap.size w w6)); clear HO HB; have HO := n0_; have HB := n1_; clear n0_ n1_ hg hw hp_))
    go_roundg ((a0 - (j + 1)).toNat)
    case measure => have := hjn.out; omega
    case rel => exact ⟨j + 1,d.set j.toNat (-1),by first|rfl | rw [hw1],rfl,⟨by have := hjn.out; omega⟩,⟨by rw [hd.out,show (j + 1).toNat = j.toNat + 1 by omega]; exact impl_distances.fill_step j.toNat a0.toNat hjn.out⟩,⟨(rrA19 HO.out)⟩,⟨(by repeat (first|(with_reducible first|exact HB.out|apply zB|apply zD|apply zC)|exact HB.out))⟩⟩
   ·
    have c0 : decide (j < (d0.length : Int)) = false := decide_eq_false c
    have hd1 : d = List.replicate a0.toNat (-1) := by rw [hd.out,show j.toNat = a0.toNat by omega,Nat.sub_self]; simp
    subst hd1
    clear hd hld hj hj0 hj1 c
    have p0 := h2
    have q0 : a2 < ((List.replicate a0.toNat (-1 : Int)).length : Int) := by simp; omega
    have HO2 : Aside0 (Kd.R (Kd.int .i64) 3 wr w.heap.size (fun _ => True) (.slice (some ⟨g17,0,none⟩) (List.replicate a0.toNat (-1 : Int)).length c17) (List.replicate a0.toNat (-1))) := ⟨by have e : (List.replicate a0.toNat (-1 : Int)).length = d0.length := (by simp [hl0]); rw [e]; exact HO.out⟩
    obtain ⟨hx0,hf0⟩ := Kd.R_celln 0 HO2.out a2 p0 q0
    have HP := Kd.R_putg HO2.out a2 0
    have e : (List.replicate a0.toNat (-1 : Int)).length = d0.length := by simp [hl0]
    rw [e] at HP
    clear HO2
    have q1 : a2 < (d0.length : Int) := by omega
    obtain ⟨d1,hd1⟩ : ∃ d1,d1 = List.replicate a0.toNat (-1 : Int) := ⟨_,rfl⟩
    rw [← hd1] at HP HO hx0
    replace hd1 := zA hd1
    replace p0 := eq_true p0
    replace q1 := eq_true q1
    replace hl0 := zA hl0
    clear q0 e; go_wp2
    have n0_ := zA HP.1
    have n1_ := zA (below_set (v := .int .i64 0) (j := a2.toNat) HB.out GB17.out)
    clear HO HB HP
    have HO := n0_
    have HB := n1_
    clear n0_ n1_
    have H2 : Aside0 (impl_distances.go k l1 (d1.set a2.toNat 0) = some r) := ⟨by rw [hd1.out]; exact H'.out⟩
    have hl1 : Aside0 ((d1.set a2.toNat 0).length = d0.length) := ⟨by rw [List.length_set,hd1.out,hl0.out]; simp⟩
    go_loopg [9] k (fun kq v9 w' => ∃ (mo : Bool) (d : List Int),v9 = .bool mo ∧ Aside0 ((mo = true ∧ impl_distances.go kq l1 d = some r) ∨ (mo = false ∧ d = r)) ∧ Aside0 (kq ≤ k) ∧ Aside0 (d.length = d0.length) ∧ Aside0 (Kd.R (Kd.int .i64) 3 w' w.heap.size (fun _ => True) (.slice (some ⟨g17,0,none⟩) d0.length c17) d) ∧ Aside0 (Below w.heap.size w w'))
    case atStart => exact ⟨true,_,rfl,⟨.inl ⟨rfl,H2.out⟩⟩,⟨Nat.le_refl _⟩,hl1,⟨(rrA19 HO.out)⟩,⟨(by repeat (first|(with_reducible first|exact HB.out|apply zB|apply zD|apply zC)|exact HB.out))⟩⟩
    case round =>
     clear H2 hl1 hd1
     obtain ⟨mo,d,rfl,hgo,hkq,hld,HO,HB⟩ := hrel
     cases mo with
     | false =>
      have e : d = r := (hgo.out.resolve_left (fun h => by cases h.1)).2
      clear hgo
      subst e
      go_wp2
      go_ret
      exact ⟨_,rfl,(rrA19 HO.out),(by repeat (first|(with_reducible first|exact HB.out|apply zB|apply zD|apply zC)|exact HB.out))⟩
     | true =>
      have hgo2 := (hgo.out.resolve_right (fun h => by cases h.1)).2
      clear hgo
      cases gk with
      | zero => exact absurd hgo2 (by simp [impl_distances.go])
      | succ k1 =>
       obtain ⟨P,hP⟩ : ∃ P,P = l1.foldl impl_distances.road (d,false) := ⟨_,rfl⟩
       simp only [impl_distances.go] at hgo2
       rw [← hP] at hgo2
       have HGO := zA hgo2
       replace hP := zA hP
       clear hgo2; go_wp2
       go_loopg [33,9] l1.length (fun kq v33 v9 w' => ∃ (j : Int) (mo : Bool) (d' : List Int),v33 = .int .i64 j ∧ v9 = .bool mo ∧ kq = l1.length - j.toNat ∧ Aside0 (0 ≤ j ∧ j ≤ (l1.length : Int)) ∧ Aside0 ((l1.drop j.toNat).foldl impl_distances.road (d',mo) = P) ∧ Aside0 (d'.length = d0.length) ∧ Aside0 (Kd.R (Kd.int .i64) 3 w' w.heap.size (fun _ => True) (.slice (some ⟨g17,0,none⟩) d0.length c17) d') ∧ Aside0 (Below w.heap.size w w'))
       case atStart => exact ⟨0,false,d,rfl,rfl,by simp,⟨by omega⟩,⟨by simp [hP.out]⟩,hld,⟨(rrA19 HO.out)⟩,⟨(by repeat (first|(with_reducible first|exact HB.out|apply zB|apply zD|apply zC)|exact HB.out))⟩⟩
       case round =>
        clear hld
        obtain ⟨j,mo,d',rfl,rfl,rfl,hj,hf,hld,HO,HB⟩ := hrel
        have hj0 := hj.out.1
        have hj1 := hj.out.2
        by_cases c : j < (l1.length : Int)
        ·
         have c0 : decide (j < (l1.length : Int)) = true := decide_eq_true c
         have hw1 : IntKind.i64.wrap (j + 1) = j + 1 := by rw [IntKind.wrap_i64]; omega
         have hjn : j.toNat < l1.length := by omega
         have hdr : l1.drop j.toNat = (rd_T38 l1 j) :: l1.drop (j.toNat + 1) := by
          rw [List.drop_eq_getElem_cons hjn]; congr 1; unfold rd_T38; rw [List.getD_eq_getElem?_getD,List.getElem?_eq_getElem hjn]; rfl
         have hin := HA.out _ (show rd_T38 l1 j ∈ l1 by unfold rd_T38; rw [List.getD_eq_getElem?_getD,List.getElem?_eq_getElem hjn]; exact List.getElem_mem hjn)
         obtain ⟨ad,e,hx0,hx1,hx2⟩ := at_T38 HR1.out j hj0 c
         subst e
         replace hx0 := (HB.out.cell (World.block_lt_of_cell? w _ hx0)).trans hx0
         replace hx1 := (HB.out.cell (World.block_lt_of_cell? w _ hx1)).trans hx1
         replace hx2 := (HB.out.cell (World.block_lt_of_cell? w _ hx2)).trans hx2
         obtain ⟨A,hAe⟩ : ∃ A,A = (rd_T38 l1 j).f0 := ⟨_,rfl⟩
         obtain ⟨B,hBe⟩ : ∃ B,B = (rd_T38 l1 j).f1 := ⟨_,rfl⟩
         obtain ⟨C,hCe⟩ : ∃ C,C = (rd_T38 l1 j).f2 := ⟨_,rfl⟩
         rw [← hAe] at hx0
         rw [← hBe] at hx1
         rw [← hCe] at hx2
         replace hin := of_decide_eq_true hin
         rw [← hAe,← hBe] at hin
         have hA0 : 0 ≤ A := hin.1
         have hA1 : A < (d0.length : Int) := by have := HL0.out; have := hin.2.1; omega
         have hB0 : 0 ≤ B := hin.2.2.1
         have hB1 : B < (d0.length : Int) := by have := HL0.out; have := hin.2.2.2; omega
         replace hf := hf.out
         rw [hdr,List.foldl_cons] at hf
         have hrd : impl_distances.road (d',mo) (rd_T38 l1 j) = impl_distances.ways 0 (d',mo) A B C := by rw [hAe,hBe,hCe]; rfl
         rw [hrd] at hf
         obtain ⟨Q,hQ⟩ : ∃ Q,Q = impl_distances.ways 0 (d',mo) A B C := ⟨_,rfl⟩
         rw [← hQ] at hf
         replace hf := zA hf
         replace hQ := zA hQ
         replace hA0 := zA hA0
         replace hA1 := zA hA1
         replace hB0 := zA hB0
         replace hB1 := zA hB1
         have p0 := eq_true hj0
         have q0 := eq_true c
         replace hjn := zA (And.intro hj0 hjn)
         clear hin hrd hAe hBe hCe hdr hj hj0 hj1 c
         go_wp2_with (first | ((with_reducible refine gate_dst (N := 11) rfl ?_); refine box_event ?hg (N := 11) ?hd (cs := #[.int .i64 0,.int .i64 0,.int .i64 0]) (t := 38) ?hr ?_; (case hd => rfl); (case hg => rfl); (case hr => first | (go_simp; done) | (go_simp; rfl)); intro gb11 hgb w8 hbox hb; have ge_ : w.heap.size ≤ gb11 := (by rw [hgb]; exact below_size (by repeat (first|(with_reducible first|exact HB.out|apply zB|apply zD|apply zC)|exact HB.out)));  have n0_ := zA (Kd.R_below (rrA19 HO.out) hb); have n1_ := zA (below_step (by repeat (first|(with_reducible first|exact HB.out|apply zB|apply zD|apply zC)|exact HB.out)) hb); clear HO HB; have HO := n0_; have HB := n1_; have BK11 := zA hbox; have GE11 := zA ge_; clear n0_ n1_ hb hgb ge_ hbox; have hz11_0 := (blk_cell BK11.out 0).trans rfl; have hfz11_0 := blk_frozen BK11.out 0; have hz11_1 := (blk_cell BK11.out 1).trans rfl; have hfz11_1 := blk_frozen BK11.out 1; have hz11_2 := (blk_cell BK11.out 2).trans rfl; have hfz11_2 := blk_frozen BK11.out 2))
         clear hz11_0 hz11_1 hz11_2 hfz11_0 hfz11_1 hfz11_2 hx0 hx1 hx2
         go_loopg [48,9] 2 (fun kq v48 v9 w' => ∃ (i : Int) (mo2 : Bool) (d2 : List Int),v48 = .int .i64 i ∧ v9 = .bool mo2 ∧ kq = (2 - i).toNat ∧ Aside0 (i = 0 ∨ i = 1 ∨ i = 2) ∧ Aside0 (impl_distances.ways i (d2,mo2) A B C = Q) ∧ Aside0 (w'.heap[gb11]? = some (.cells #[.int .i64 A,.int .i64 B,.int .i64 C] 38 (0,0))) ∧ Aside0 (d2.length = d0.length) ∧ Aside0 (Kd.R (Kd.int .i64) 3 w' w.heap.size (fun _ => True) (.slice (some ⟨g17,0,none⟩) d0.length c17) d2) ∧ Aside0 (Below w.heap.size w w'))
         case atStart => exact ⟨0,mo,d',rfl,rfl,rfl,⟨.inl rfl⟩,⟨hQ.out.symm⟩,⟨(blk_put (blk_put (blk_put BK11.out 0 (.int .i64 A) rfl) 1 (.int .i64 B) rfl) 2 (.int .i64 C) rfl)⟩,hld,⟨(Kd.R_mono (Kd.R_far (p := ⟨gb11,2,none⟩) (Kd.R_far (p := ⟨gb11,1,none⟩) (Kd.R_far (p := ⟨gb11,0,none⟩) (Kd.R_types HO.out BK11.out (by decide)) (fun _ h=>h.2) (.int .i64 A)) (fun _ h=>h.2) (.int .i64 B)) (fun _ h=>h.2) (.int .i64 C)) (fun _ _ => trivial))⟩,⟨(below_set (below_set (below_set HB.out GE11.out) GE11.out) GE11.out)⟩⟩
         case round =>
          clear HO HB BK11 hQ hld
          obtain ⟨i,mo2,d2,rfl,rfl,rfl,hi,hw,BK11,hld,HO,HB⟩ := hrel
          have hi2 := hi.out
          clear hi
          rcases hi2 with rfl|rfl|rfl
          ·
           have hz11_2 := (blk_cell BK11.out 2).trans rfl
           have hidx := fun W => impl_distances.idx0 W A B B A
           go_wp2_with (first | ((with_reducible refine gate_dst (N := 13) rfl ?_); refine box_event ?hg (N := 13) ?hd (cs := #[.int .i64 0,.int .i64 0]) (t := 56) ?hr ?_; (case hd => rfl); (case hg => rfl); (case hr => first | (go_simp; done) | (go_simp; rfl)); intro gb13 hgb w10 hbox hb; have ge_ : w.heap.size ≤ gb13 := (by rw [hgb]; exact below_size (by repeat (first|(with_reducible first|exact HB.out|apply zB|apply zD|apply zC)|exact HB.out))); have ne11_ : gb11 ≠ gb13 := (by rw [hgb]; exact Nat.ne_of_lt (blk_lt (rrB19 BK11.out))); have nb11_ := blk_below (rrB19 BK11.out) hb; have n0_ := zA (Kd.R_below (rrA19 HO.out) hb); have n1_ := zA (below_step (by repeat (first|(with_reducible first|exact HB.out|apply zB|apply zD|apply zC)|exact HB.out)) hb); clear HO HB; have HO := n0_; have HB := n1_; have BK13 := zA hbox; have GE13 := zA ge_; clear n0_ n1_ hb hgb ge_ hbox BK11; have BK11 := zA nb11_; have NE11_13 := zA ne11_; clear nb11_ ne11_; have hz13_0 := (blk_cell BK13.out 0).trans rfl; have hfz13_0 := blk_frozen BK13.out 0; have hz13_1 := (blk_cell BK13.out 1).trans rfl; have hfz13_1 := blk_frozen BK13.out 1))
           generalize hw11 : ((w10.setCell ⟨gb13,0,none⟩ (.int .i64 A)).setCell ⟨gb13,1,none⟩ (.int .i64 B)) = w11
           have n0_ : Aside0 (Kd.R (Kd.int .i64) 3 w11 w.heap.size (fun _ => True) (.slice (some ⟨g17,0,none⟩) d0.length c17) d2) := ⟨by rw [← hw11]; exact (Kd.R_mono (Kd.R_far (p := ⟨gb13,1,none⟩) (Kd.R_far (p := ⟨gb13,0,none⟩) (Kd.R_types HO.out BK13.out (by decide)) (fun _ h=>h.2) (.int .i64 A)) (fun _ h=>h.2) (.int .i64 B)) (fun _ _ => trivial))⟩
           have n1_ : Aside0 (Below w.heap.size w w11) := ⟨by rw [← hw11]; exact (below_set (below_set HB.out GE13.out) GE13.out)⟩
           have n2_ : Aside0 (w11.heap[gb11]? = some (.cells #[.int .i64 A,.int .i64 B,.int .i64 C] 38 (0,0))) := ⟨by rw [← hw11]; exact blk_far (blk_far BK11.out NE11_13.out _) NE11_13.out _⟩
           have n3_ : Aside0 (w11.heap[gb13]? = some (.cells #[.int .i64 A,.int .i64 B] 56 (0,0))) := ⟨by rw [← hw11]; exact (blk_put (blk_put BK13.out 0 (.int .i64 A) rfl) 1 (.int .i64 B) rfl)⟩
           clear HO HB BK11 BK13 hz11_2 hz13_0 hz13_1 hfz13_0 hfz13_1 hidx hw11
           have HO := n0_
           have HB := n1_
           have BK11 := n2_
           have BK13 := n3_
           clear n0_ n1_ n2_ n3_
           have hz11_2 := (blk_cell BK11.out 2).trans rfl
           have hz13_0 := (blk_cell BK13.out 0).trans rfl
           have hz13_1 := (blk_cell BK13.out 1).trans rfl
           have hxa : w11.cell? ⟨g17,A.toNat,none⟩ = some (.int .i64 (rd d2 A)) := (Kd.R_celln 0 HO.out A hA0.out hA1.out).1
           have hxb : w11.cell? ⟨g17,B.toNat,none⟩ = some (.int .i64 (rd d2 B)) := (Kd.R_celln 0 HO.out B hB0.out hB1.out).1
           have hfb : w11.frozen? ⟨g17,B.toNat,none⟩ = false := (Kd.R_celln 0 HO.out B hB0.out hB1.out).2
           have pA := eq_true hA0.out
           have qA := eq_true hA1.out
           have pB := eq_true hB0.out
           have qB := eq_true hB1.out
           by_cases cc1 : 0 ≤ rd d2 A
           ·
            have cc1b : decide (0 ≤ rd d2 A) = true := decide_eq_true cc1
            replace cc1 := zA cc1
            by_cases cc2 : rd d2 B < 0
            ·
             have cc2b : decide (rd d2 B < 0) = true := decide_eq_true cc2
             replace cc2 := zA cc2
             have NE17 : gb11 ≠ g17 := fun e => ((Kd.R_types HO.out BK11.out (by decide)).1 g17 rfl).2 e.symm
             replace NE17 := zA NE17
             go_quiet (fail)
             go_wp2
             go_quiet (fail)
             go_wp2
             go_region
             go_wp2
             go_roundg 1
             case measure => omega
             case rel => exact ⟨1,true,d2.set B.toNat (wrap64 (rd d2 A + C)),rfl,rfl,rfl,⟨by omega⟩,⟨by rw [← hw.out,impl_distances.ways0,impl_distances.rel_yes (⟨cc1.out,.inl cc2.out⟩)]⟩,⟨blk_far (rrB19 BK11.out) NE17.out _⟩,⟨by rw [List.length_set]; exact hld.out⟩,⟨Kd.R_putn (rrA19 HO.out) _ _⟩,⟨below_set (by repeat (first|(with_reducible first|exact HB.out|apply zB|apply zD|apply zC)|exact HB.out)) GB17.out⟩⟩
            ·
             have cc2b : decide (rd d2 B < 0) = false := decide_eq_false cc2
             replace cc2 := zA cc2
             by_cases cc3 : wrap64 (rd d2 A + C) < rd d2 B
             ·
              have cc3b : decide (wrap64 (rd d2 A + C) < rd d2 B) = true := decide_eq_true cc3
              replace cc3 := zA cc3
              have NE17 : gb11 ≠ g17 := fun e => ((Kd.R_types HO.out BK11.out (by decide)).1 g17 rfl).2 e.symm
              replace NE17 := zA NE17
              go_quiet (fail)
              go_wp2
              go_quiet (fail)
              go_wp2
              go_region
              go_wp2
              go_roundg 1
              case measure => omega
              case rel => exact ⟨1,true,d2.set B.toNat (wrap64 (rd d2 A + C)),rfl,rfl,rfl,⟨by omega⟩,⟨by rw [← hw.out,impl_distances.ways0,impl_distances.rel_yes (⟨cc1.out,.inr cc3.out⟩)]⟩,⟨blk_far (rrB19 BK11.out) NE17.out _⟩,⟨by rw [List.length_set]; exact hld.out⟩,⟨Kd.R_putn (rrA19 HO.out) _ _⟩,⟨below_set (by repeat (first|(with_reducible first|exact HB.out|apply zB|apply zD|apply zC)|exact HB.out)) GB17.out⟩⟩
             ·
              have cc3b : decide (wrap64 (rd d2 A + C) < rd d2 B) = false := decide_eq_false cc3
              replace cc3 := zA cc3
              go_quiet (fail)
              go_wp2
              go_quiet (fail)
              go_wp2
              go_roundg 1
              case measure => omega
              case rel => exact ⟨1,mo2,d2,rfl,rfl,rfl,⟨by omega⟩,⟨by rw [← hw.out,impl_distances.ways0,impl_distances.rel_no (fun h => by have := cc2.out; have := cc3.out; have h2 : rd d2 B < 0 ∨ wrap64 (rd d2 A + C) < rd d2 B := h.2; omega)]⟩,⟨(rrB19 BK11.out)⟩,hld,⟨(rrA19 HO.out)⟩,⟨(by repeat (first|(with_reducible first|exact HB.out|apply zB|apply zD|apply zC)|exact HB.out))⟩⟩
           ·
            have cc1b : decide (0 ≤ rd d2 A) = false := decide_eq_false cc1
            replace cc1 := zA cc1
            go_quiet (fail)
            go_wp2
            go_quiet (fail)
            go_wp2
            go_roundg 1
            case measure => omega
            case rel => exact ⟨1,mo2,d2,rfl,rfl,rfl,⟨by omega⟩,⟨by rw [← hw.out,impl_distances.ways0,impl_distances.rel_no (fun h => by have := cc1.out; have h2 : 0 ≤ rd d2 A := h.1; omega)]⟩,⟨(rrB19 BK11.out)⟩,hld,⟨(rrA19 HO.out)⟩,⟨(by repeat (first|(with_reducible first|exact HB.out|apply zB|apply zD|apply zC)|exact HB.out))⟩⟩
          ·
           have hz11_2 := (blk_cell BK11.out 2).trans rfl
           have hidx := fun W => impl_distances.idx1 W A B B A
           go_wp2_with (first | ((with_reducible refine gate_dst (N := 13) rfl ?_); refine box_event ?hg (N := 13) ?hd (cs := #[.int .i64 0,.int .i64 0]) (t := 56) ?hr ?_; (case hd => rfl); (case hg => rfl); (case hr => first | (go_simp; done) | (go_simp; rfl)); intro gb13 hgb w10 hbox hb; have ge_ : w.heap.size ≤ gb13 := (by rw [hgb]; exact below_size (by repeat (first|(with_reducible first|exact HB.out|apply zB|apply zD|apply zC)|exact HB.out))); have ne11_ : gb11 ≠ gb13 := (by rw [hgb]; exact Nat.ne_of_lt (blk_lt (rrB19 BK11.out))); have nb11_ := blk_below (rrB19 BK11.out) hb; have n0_ := zA (Kd.R_below (rrA19 HO.out) hb); have n1_ := zA (below_step (by repeat (first|(with_reducible first|exact HB.out|apply zB|apply zD|apply zC)|exact HB.out)) hb); clear HO HB; have HO := n0_; have HB := n1_; have BK13 := zA hbox; have GE13 := zA ge_; clear n0_ n1_ hb hgb ge_ hbox BK11; have BK11 := zA nb11_; have NE11_13 := zA ne11_; clear nb11_ ne11_; have hz13_0 := (blk_cell BK13.out 0).trans rfl; have hfz13_0 := blk_frozen BK13.out 0; have hz13_1 := (blk_cell BK13.out 1).trans rfl; have hfz13_1 := blk_frozen BK13.out 1))
           generalize hw11 : ((w10.setCell ⟨gb13,0,none⟩ (.int .i64 B)).setCell ⟨gb13,1,none⟩ (.int .i64 A)) = w11
           have n0_ : Aside0 (Kd.R (Kd.int .i64) 3 w11 w.heap.size (fun _ => True) (.slice (some ⟨g17,0,none⟩) d0.length c17) d2) := ⟨by rw [← hw11]; exact (Kd.R_mono (Kd.R_far (p := ⟨gb13,1,none⟩) (Kd.R_far (p := ⟨gb13,0,none⟩) (Kd.R_types HO.out BK13.out (by decide)) (fun _ h=>h.2) (.int .i64 B)) (fun _ h=>h.2) (.int .i64 A)) (fun _ _ => trivial))⟩
           have n1_ : Aside0 (Below w.heap.size w w11) := ⟨by rw [← hw11]; exact (below_set (below_set HB.out GE13.out) GE13.out)⟩
           have n2_ : Aside0 (w11.heap[gb11]? = some (.cells #[.int .i64 A,.int .i64 B,.int .i64 C] 38 (0,0))) := ⟨by rw [← hw11]; exact blk_far (blk_far BK11.out NE11_13.out _) NE11_13.out _⟩
           have n3_ : Aside0 (w11.heap[gb13]? = some (.cells #[.int .i64 B,.int .i64 A] 56 (0,0))) := ⟨by rw [← hw11]; exact (blk_put (blk_put BK13.out 0 (.int .i64 B) rfl) 1 (.int .i64 A) rfl)⟩
           clear HO HB BK11 BK13 hz11_2 hz13_0 hz13_1 hfz13_0 hfz13_1 hidx hw11
           have HO := n0_
           have HB := n1_
           have BK11 := n2_
           have BK13 := n3_
           clear n0_ n1_ n2_ n3_
           have hz11_2 := (blk_cell BK11.out 2).trans rfl
           have hz13_0 := (blk_cell BK13.out 0).trans rfl
           have hz13_1 := (blk_cell BK13.out 1).trans rfl
           have hxa : w11.cell? ⟨g17,B.toNat,none⟩ = some (.int .i64 (rd d2 B)) := (Kd.R_celln 0 HO.out B hB0.out hB1.out).1
           have hxb : w11.cell? ⟨g17,A.toNat,none⟩ = some (.int .i64 (rd d2 A)) := (Kd.R_celln 0 HO.out A hA0.out hA1.out).1
           have hfb : w11.frozen? ⟨g17,A.toNat,none⟩ = false := (Kd.R_celln 0 HO.out A hA0.out hA1.out).2
           have pA := eq_true hB0.out
           have qA := eq_true hB1.out
           have pB := eq_true hA0.out
           have qB := eq_true hA1.out
           by_cases cc1 : 0 ≤ rd d2 B
           ·
            have cc1b : decide (0 ≤ rd d2 B) = true := decide_eq_true cc1
            replace cc1 := zA cc1
            by_cases cc2 : rd d2 A < 0
            ·
             have cc2b : decide (rd d2 A < 0) = true := decide_eq_true cc2
             replace cc2 := zA cc2
             have NE17 : gb11 ≠ g17 := fun e => ((Kd.R_types HO.out BK11.out (by decide)).1 g17 rfl).2 e.symm
             replace NE17 := zA NE17
             go_quiet (fail)
             go_wp2
             go_quiet (fail)
             go_wp2
             go_region
             go_wp2
             go_roundg 0
             case measure => omega
             case rel => exact ⟨2,true,d2.set A.toNat (wrap64 (rd d2 B + C)),rfl,rfl,rfl,⟨by omega⟩,⟨by rw [← hw.out,impl_distances.ways1,impl_distances.rel_yes (⟨cc1.out,.inl cc2.out⟩)]⟩,⟨blk_far (rrB19 BK11.out) NE17.out _⟩,⟨by rw [List.length_set]; exact hld.out⟩,⟨Kd.R_putn (rrA19 HO.out) _ _⟩,⟨below_set (by repeat (first|(with_reducible first|exact HB.out|apply zB|apply zD|apply zC)|exact HB.out)) GB17.out⟩⟩
            ·
             have cc2b : decide (rd d2 A < 0) = false := decide_eq_false cc2
             replace cc2 := zA cc2
             by_cases cc3 : wrap64 (rd d2 B + C) < rd d2 A
             ·
              have cc3b : decide (wrap64 (rd d2 B + C) < rd d2 A) = true := decide_eq_true cc3
              replace cc3 := zA cc3
              have NE17 : gb11 ≠ g17 := fun e => ((Kd.R_types HO.out BK11.out (by decide)).1 g17 rfl).2 e.symm
              replace NE17 := zA NE17
              go_quiet (fail)
              go_wp2
              go_quiet (fail)
              go_wp2
              go_region
              go_wp2
              go_roundg 0
              case measure => omega
              case rel => exact ⟨2,true,d2.set A.toNat (wrap64 (rd d2 B + C)),rfl,rfl,rfl,⟨by omega⟩,⟨by rw [← hw.out,impl_distances.ways1,impl_distances.rel_yes (⟨cc1.out,.inr cc3.out⟩)]⟩,⟨blk_far (rrB19 BK11.out) NE17.out _⟩,⟨by rw [List.length_set]; exact hld.out⟩,⟨Kd.R_putn (rrA19 HO.out) _ _⟩,⟨below_set (by repeat (first|(with_reducible first|exact HB.out|apply zB|apply zD|apply zC)|exact HB.out)) GB17.out⟩⟩
             ·
              have cc3b : decide (wrap64 (rd d2 B + C) < rd d2 A) = false := decide_eq_false cc3
              replace cc3 := zA cc3
              go_quiet (fail)
              go_wp2
              go_quiet (fail)
              go_wp2
              go_roundg 0
              case measure => omega
              case rel => exact ⟨2,mo2,d2,rfl,rfl,rfl,⟨by omega⟩,⟨by rw [← hw.out,impl_distances.ways1,impl_distances.rel_no (fun h => by have := cc2.out; have := cc3.out; have h2 : rd d2 A < 0 ∨ wrap64 (rd d2 B + C) < rd d2 A := h.2; omega)]⟩,⟨(rrB19 BK11.out)⟩,hld,⟨(rrA19 HO.out)⟩,⟨(by repeat (first|(with_reducible first|exact HB.out|apply zB|apply zD|apply zC)|exact HB.out))⟩⟩
           ·
            have cc1b : decide (0 ≤ rd d2 B) = false := decide_eq_false cc1
            replace cc1 := zA cc1
            go_quiet (fail)
            go_wp2
            go_quiet (fail)
            go_wp2
            go_roundg 0
            case measure => omega
            case rel => exact ⟨2,mo2,d2,rfl,rfl,rfl,⟨by omega⟩,⟨by rw [← hw.out,impl_distances.ways1,impl_distances.rel_no (fun h => by have := cc1.out; have h2 : 0 ≤ rd d2 B := h.1; omega)]⟩,⟨(rrB19 BK11.out)⟩,hld,⟨(rrA19 HO.out)⟩,⟨(by repeat (first|(with_reducible first|exact HB.out|apply zB|apply zD|apply zC)|exact HB.out))⟩⟩
          ·
           go_wp2
           go_roundg (l1.length - (j + 1).toNat)
           case measure => have := hjn.out; omega
           case rel => exact ⟨j + 1,mo2,d2,by first|rfl | rw [hw1],rfl,rfl,⟨by have := hjn.out; omega⟩,⟨by rw [← hf.out,← hw.out,impl_distances.ways2,show (j + 1).toNat = j.toNat + 1 by have := hjn.out; omega]⟩,hld,⟨(rrA19 HO.out)⟩,⟨(by repeat (first|(with_reducible first|exact HB.out|apply zB|apply zD|apply zC)|exact HB.out))⟩⟩
        ·
         have c0 : decide (j < (l1.length : Int)) = false := decide_eq_false c
         have hP2 : P = (d',mo) := by rw [← hf.out,List.drop_eq_nil_of_le (by omega)]; rfl
         subst hP2
         have HG := HGO.out
         clear HGO hf hP; go_wp2
         go_roundg k1
         case measure => omega
         case rel => exact ⟨mo,d',rfl,⟨by cases mo with | true => exact .inl ⟨rfl,HG⟩ | false => exact .inr ⟨rfl,Option.some.inj HG⟩⟩,⟨by have := hkq.out; omega⟩,hld,⟨(rrA19 HO.out)⟩,⟨(by repeat (first|(with_reducible first|exact HB.out|apply zB|apply zD|apply zC)|exact HB.out))⟩⟩

end Go.Proofs.Ytokoihmjcfhemaa.PFnExactSpread
