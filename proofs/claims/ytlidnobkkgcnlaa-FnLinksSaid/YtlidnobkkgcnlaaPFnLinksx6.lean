-- Written by a program out of the translation,for this claim.
import Derived.Test.YtlidnobkkgcnlaaPFnLinksx0
import Derived.Test.YtlidnobkkgcnlaaPFnLinksx5
namespace Go.Proofs.Ytlidnobkkgcnlaa.PFnLinks
open Go.RowKit Go.Proofs.YtlidnobkkgcnlaaW.PrintWords Go.Proofs.YtlidnobkkgcnlaaW.PrintLast Go.Proofs.YtlidnobkkgcnlaaW.PrintMore
attribute [local go_sem] max2_int min2_int max_two min_two max_three min_three max_four min_four   -- for this text's walks alone
set_option linter.unusedVariables false
set_option linter.unusedSimpArgs false
open Go.Proofs.YtlidnobkkgcnlaaW.PrintWords.Aside0 renaming mk → zA

/-! ### spec_EndOk: function 22 -/
mutual
def spec_EndOk.j0 : Nat → Bool → Int → Int → List ByteArray → Int → List ByteArray → Option (Bool)
  | 0,_,_,_,_,_,_ => none
  | k + 1,x50,x179000,x179001,x179002,x179003,x179004 => if x50 = true then (some false) else (spec_EndOk.l0 k 0 x179000 x179001 x179002 x179003 x179004)
def spec_EndOk.l0 : Nat → Int → Int → Int → List ByteArray → Int → List ByteArray → Option (Bool)
  | 0,_,_,_,_,_,_ => none
  | k + 1,x3,x179000,x179001,x179002,x179003,x179004 => if x3 < (x179002.length : Int) then (if 0 ≤ x3 then (if ((rdOf ByteArray.empty x179002 x3).size : Int) > 60 then (some false) else (spec_EndOk.l0 k (wrap64 (x3 + 1)) x179000 x179001 x179002 x179003 x179004)) else (none)) else (spec_EndOk.l1 k 0 x179000 x179001 x179002 x179003 x179004)
def spec_EndOk.l1 : Nat → Int → Int → Int → List ByteArray → Int → List ByteArray → Option (Bool)
  | 0,_,_,_,_,_,_ => none
  | k + 1,x4,x179000,x179001,x179002,x179003,x179004 => if x4 < (x179004.length : Int) then (if 0 ≤ x4 then (if ((rdOf ByteArray.empty x179004 x4).size : Int) > 60 then (some false) else (spec_EndOk.l1 k (wrap64 (x4 + 1)) x179000 x179001 x179002 x179003 x179004)) else (none)) else (some true)
end
def spec_EndOk.f (k : Nat) (a0_0 : Int) (a0_1 : Int) (l0_2 : List ByteArray) (a0_3 : Int) (l0_4 : List ByteArray) : Option (Bool) := (spec_l01In.f a0_1 0 1000).bind fun t179 => (if t179 = true then ((spec_l01In.f a0_0 a0_1 (wrap64 (a0_1 + 4))).bind fun t180 => (if t180 = true then (if (l0_2.length : Int) > 30 then (spec_EndOk.j0 k true a0_0 a0_1 l0_2 a0_3 l0_4) else (if (l0_2.length : Int) < (wrap64 (a0_0 - a0_1)) then (spec_EndOk.j0 k true a0_0 a0_1 l0_2 a0_3 l0_4) else ((spec_l01In.f a0_3 0 1000).bind fun t181 => (if t181 = true then (spec_EndOk.j0 k ((l0_4.length : Int) != a0_3) a0_0 a0_1 l0_2 a0_3 l0_4) else (spec_EndOk.j0 k true a0_0 a0_1 l0_2 a0_3 l0_4))))) else (spec_EndOk.j0 k true a0_0 a0_1 l0_2 a0_3 l0_4))) else (spec_EndOk.j0 k true a0_0 a0_1 l0_2 a0_3 l0_4))
theorem spec_EndOk.mono_l : ∀ k,(∀ y0 y1 y2 y3 y4 y5,LeO (spec_EndOk.j0 k y0 y1 y2 y3 y4 y5) (spec_EndOk.j0 (k + 1) y0 y1 y2 y3 y4 y5)) ∧ (∀ y0 y1 y2 y3 y4 y5,LeO (spec_EndOk.l0 k y0 y1 y2 y3 y4 y5) (spec_EndOk.l0 (k + 1) y0 y1 y2 y3 y4 y5)) ∧ (∀ y0 y1 y2 y3 y4 y5,LeO (spec_EndOk.l1 k y0 y1 y2 y3 y4 y5) (spec_EndOk.l1 (k + 1) y0 y1 y2 y3 y4 y5))
  | 0 => ⟨fun _ _ _ _ _ _ r h => by simp [spec_EndOk.j0] at h,fun _ _ _ _ _ _ r h => by simp [spec_EndOk.l0] at h,fun _ _ _ _ _ _ r h => by simp [spec_EndOk.l1] at h⟩
  | k + 1 => by
   obtain ⟨ih0,ih1,ih2⟩ := spec_EndOk.mono_l k
   refine ⟨?_,?_,?_⟩
   ·
    intro y0 y1 y2 y3 y4 y5
    unfold spec_EndOk.j0
    repeat' first
   |(with_reducible exact ih0 _ _ _ _ _ _)
   |(with_reducible exact ih1 _ _ _ _ _ _)
   |(with_reducible exact ih2 _ _ _ _ _ _)
   |(with_reducible exact LeO.refl _)
   |(with_reducible exact LeO.none _)
   |(with_reducible refine LeO.ite ?_ ?_)
   |(with_reducible refine LeO.bind ?_ (fun _ => ?_))
   |exact ih0 _ _ _ _ _ _
   |exact ih1 _ _ _ _ _ _
   |exact ih2 _ _ _ _ _ _
   |exact LeO.none _
   |refine LeO.ite ?_ ?_
   |refine LeO.bind ?_ (fun _ => ?_)
   ·
    intro y0 y1 y2 y3 y4 y5
    unfold spec_EndOk.l0
    repeat' first
   |(with_reducible exact ih0 _ _ _ _ _ _)
   |(with_reducible exact ih1 _ _ _ _ _ _)
   |(with_reducible exact ih2 _ _ _ _ _ _)
   |(with_reducible exact LeO.refl _)
   |(with_reducible exact LeO.none _)
   |(with_reducible refine LeO.ite ?_ ?_)
   |(with_reducible refine LeO.bind ?_ (fun _ => ?_))
   |exact ih0 _ _ _ _ _ _
   |exact ih1 _ _ _ _ _ _
   |exact ih2 _ _ _ _ _ _
   |exact LeO.none _
   |refine LeO.ite ?_ ?_
   |refine LeO.bind ?_ (fun _ => ?_)
   ·
    intro y0 y1 y2 y3 y4 y5
    unfold spec_EndOk.l1
    repeat' first
   |(with_reducible exact ih0 _ _ _ _ _ _)
   |(with_reducible exact ih1 _ _ _ _ _ _)
   |(with_reducible exact ih2 _ _ _ _ _ _)
   |(with_reducible exact LeO.refl _)
   |(with_reducible exact LeO.none _)
   |(with_reducible refine LeO.ite ?_ ?_)
   |(with_reducible refine LeO.bind ?_ (fun _ => ?_))
   |exact ih0 _ _ _ _ _ _
   |exact ih1 _ _ _ _ _ _
   |exact ih2 _ _ _ _ _ _
   |exact LeO.none _
   |refine LeO.ite ?_ ?_
   |refine LeO.bind ?_ (fun _ => ?_)
theorem spec_EndOk.mono : ∀ a0 a1 a2 a3 a4 k,LeO (spec_EndOk.f k a0 a1 a2 a3 a4) (spec_EndOk.f (k + 1) a0 a1 a2 a3 a4) := by
  intro a0 a1 a2 a3 a4 k
  obtain ⟨ih0,ih1,ih2⟩ := spec_EndOk.mono_l k
  unfold spec_EndOk.f
  repeat' first
   |(with_reducible exact ih0 _ _ _ _ _ _)
   |(with_reducible exact ih1 _ _ _ _ _ _)
   |(with_reducible exact ih2 _ _ _ _ _ _)
   |(with_reducible exact LeO.refl _)
   |(with_reducible exact LeO.none _)
   |(with_reducible refine LeO.ite ?_ ?_)
   |(with_reducible refine LeO.bind ?_ (fun _ => ?_))
   |exact ih0 _ _ _ _ _ _
   |exact ih1 _ _ _ _ _ _
   |exact ih2 _ _ _ _ _ _
   |exact LeO.none _
   |refine LeO.ite ?_ ?_
   |refine LeO.bind ?_ (fun _ => ?_)
set_option maxHeartbeats 8000000 in
set_option maxRecDepth 100000 in
theorem spec_EndOk.calls (k : Nat) (a0_0 : Int) (a0_1 : Int) (A0_2 : Option Addr) (c0_2 : Nat) (l0_2 : List ByteArray) (a0_3 : Int) (A0_4 : Option Addr) (c0_4 : Nat) (l0_4 : List ByteArray) (r : Bool) (w : World) (hr0_2 : Kd.C Kd.string w A0_2 l0_2.length l0_2) (hc0_2 : l0_2.length ≤ c0_2) (hr0_4 : Kd.C Kd.string w A0_4 l0_4.length l0_4) (hc0_4 : l0_4.length ≤ c0_4) (h : spec_EndOk.f k a0_0 a0_1 l0_2 a0_3 l0_4 = some r) :
   Calls Try.prog 22 #[.agg #[.int .i64 a0_0,.int .i64 a0_1,.slice A0_2 l0_2.length c0_2,.int .i64 a0_3,.slice A0_4 l0_4.length c0_4]] w fun e w' => e = .returned (.bool r) ∧ Below w.heap.size w w' := by
  have hu26 := Try.underlying26
  have HR0_2 := zA hr0_2
  have HC0_2 := zA hc0_2
  clear hr0_2 hc0_2
  have HR0_4 := zA hr0_4
  have HC0_4 := zA hc0_4
  clear hr0_4 hc0_4
  have HB := zA (Below.refl w.heap.size w)
  have H : ((spec_l01In.f a0_1 0 1000).bind fun t179 => (if t179 = true then ((spec_l01In.f a0_0 a0_1 (wrap64 (a0_1 + 4))).bind fun t180 => (if t180 = true then (if (l0_2.length : Int) > 30 then (spec_EndOk.j0 k true a0_0 a0_1 l0_2 a0_3 l0_4) else (if (l0_2.length : Int) < (wrap64 (a0_0 - a0_1)) then (spec_EndOk.j0 k true a0_0 a0_1 l0_2 a0_3 l0_4) else ((spec_l01In.f a0_3 0 1000).bind fun t181 => (if t181 = true then (spec_EndOk.j0 k ((l0_4.length : Int) != a0_3) a0_0 a0_1 l0_2 a0_3 l0_4) else (spec_EndOk.j0 k true a0_0 a0_1 l0_2 a0_3 l0_4))))) else (spec_EndOk.j0 k true a0_0 a0_1 l0_2 a0_3 l0_4))) else (spec_EndOk.j0 k true a0_0 a0_1 l0_2 a0_3 l0_4))) = some r := h
  clear h
  have HC2 := zA H
  clear H
  go_enter Try.func22,Try.ntmps22
  go_upto_region 1 with (first | ((with_reducible refine gate_dst (N := 1) rfl ?_); (try (refine gate_guard (by rfl) ?_; dsimp only)); refine box_event ?hg (N := 1) ?hd (cs := #[.int .i64 a0_0,.int .i64 a0_1,.slice A0_2 l0_2.length c0_2,.int .i64 a0_3,.slice A0_4 l0_4.length c0_4]) (t := 26) ?hr ?_; (case hd => rfl); (case hg => rfl); (case hr => first | (go_simp; done) | (go_simp; rfl)); intro gb178 hg w3 hbox hb; have n0_ := zA (below_step (bT HB) hb); have n1_ := zA (hbox); have n2_ := zA ((by rw [hg]; exact (below_size (bT HB)) : w.heap.size ≤ gb178)); have n3_ := zA ((by rw [hg]; exact (below_size (bT HB)) : w.heap.size ≤ gb178)); clear HB; have HB := n0_; have BK178 := n1_; have GW178 := n2_; have GE178 := n3_; clear n0_ n1_ n2_ n3_ hb hbox hg))
  (try simp only [Act.put,List.setIfInBounds_toArray,List.set_cons_zero,List.set_cons_succ])
  go_cut [50] (fun v50 wc => ∃ (kq : Nat) (x50_1 : Bool),v50 = .bool x50_1 ∧ Aside0 (spec_EndOk.j0 kq x50_1 a0_0 a0_1 l0_2 a0_3 l0_4 = some r) ∧ Aside0 (kq ≤ k) ∧ Aside0 (wc.heap[gb178]? = some (.cells #[.int .i64 a0_0,.int .i64 a0_1,(.slice A0_2 l0_2.length c0_2),.int .i64 a0_3,(.slice A0_4 l0_4.length c0_4)] 26 (0,0))) ∧ Aside0 (Below w.heap.size w wc))
  case first =>
   have H := HC2.out
   clear HC2
   replace H := Option.bind_eq_some_iff.mp H
   obtain ⟨t179,A40,H⟩ := H
   replace H : (if t179 = true then ((spec_l01In.f a0_0 a0_1 (wrap64 (a0_1 + 4))).bind fun t180 => (if t180 = true then (if (l0_2.length : Int) > 30 then (spec_EndOk.j0 k true a0_0 a0_1 l0_2 a0_3 l0_4) else (if (l0_2.length : Int) < (wrap64 (a0_0 - a0_1)) then (spec_EndOk.j0 k true a0_0 a0_1 l0_2 a0_3 l0_4) else ((spec_l01In.f a0_3 0 1000).bind fun t181 => (if t181 = true then (spec_EndOk.j0 k ((l0_4.length : Int) != a0_3) a0_0 a0_1 l0_2 a0_3 l0_4) else (spec_EndOk.j0 k true a0_0 a0_1 l0_2 a0_3 l0_4))))) else (spec_EndOk.j0 k true a0_0 a0_1 l0_2 a0_3 l0_4))) else (spec_EndOk.j0 k true a0_0 a0_1 l0_2 a0_3 l0_4)) = some r := H
   have A4 := zA A40
   clear A40
   by_cases c5 : t179 = true
   ·
    subst c5
    have H1 : ((spec_l01In.f a0_0 a0_1 (wrap64 (a0_1 + 4))).bind fun t180 => (if t180 = true then (if (l0_2.length : Int) > 30 then (spec_EndOk.j0 k true a0_0 a0_1 l0_2 a0_3 l0_4) else (if (l0_2.length : Int) < (wrap64 (a0_0 - a0_1)) then (spec_EndOk.j0 k true a0_0 a0_1 l0_2 a0_3 l0_4) else ((spec_l01In.f a0_3 0 1000).bind fun t181 => (if t181 = true then (spec_EndOk.j0 k ((l0_4.length : Int) != a0_3) a0_0 a0_1 l0_2 a0_3 l0_4) else (spec_EndOk.j0 k true a0_0 a0_1 l0_2 a0_3 l0_4))))) else (spec_EndOk.j0 k true a0_0 a0_1 l0_2 a0_3 l0_4))) = some r := by rw [if_pos rfl] at H; exact H
    clear H; have H := H1; clear H1
    replace H := Option.bind_eq_some_iff.mp H
    obtain ⟨t180,A60,H⟩ := H
    replace H : (if t180 = true then (if (l0_2.length : Int) > 30 then (spec_EndOk.j0 k true a0_0 a0_1 l0_2 a0_3 l0_4) else (if (l0_2.length : Int) < (wrap64 (a0_0 - a0_1)) then (spec_EndOk.j0 k true a0_0 a0_1 l0_2 a0_3 l0_4) else ((spec_l01In.f a0_3 0 1000).bind fun t181 => (if t181 = true then (spec_EndOk.j0 k ((l0_4.length : Int) != a0_3) a0_0 a0_1 l0_2 a0_3 l0_4) else (spec_EndOk.j0 k true a0_0 a0_1 l0_2 a0_3 l0_4))))) else (spec_EndOk.j0 k true a0_0 a0_1 l0_2 a0_3 l0_4)) = some r := H
    have A6 := zA A60
    clear A60
    by_cases c7 : t180 = true
    ·
     subst c7
     have H1 : (if (l0_2.length : Int) > 30 then (spec_EndOk.j0 k true a0_0 a0_1 l0_2 a0_3 l0_4) else (if (l0_2.length : Int) < (wrap64 (a0_0 - a0_1)) then (spec_EndOk.j0 k true a0_0 a0_1 l0_2 a0_3 l0_4) else ((spec_l01In.f a0_3 0 1000).bind fun t181 => (if t181 = true then (spec_EndOk.j0 k ((l0_4.length : Int) != a0_3) a0_0 a0_1 l0_2 a0_3 l0_4) else (spec_EndOk.j0 k true a0_0 a0_1 l0_2 a0_3 l0_4))))) = some r := by rw [if_pos rfl] at H; exact H
     clear H; have H := H1; clear H1
     by_cases c8 : (l0_2.length : Int) > 30
     ·
      rw [if_pos c8] at H
      have c8b0 : decide (30 < (l0_2.length : Int)) = true := decide_eq_true c8
      have c8b1 : decide (30 < l0_2.length) = true := decide_eq_true (by omega)
      clear c8
      (first | rw [c8b0]|(simp only [i64_w,i32_w]; rw [c8b0])|skip)
      have H' := zA H
      clear H
      obtain ⟨_,_,_,_,_,_,_,_,_,_⟩ := cz5 BK178.out
      go_wp2_with (first | ((with_reducible refine gate_callee (f := 53) rfl ?_); refine goesL_ (some 7) rfl rfl Try.func53 (by kernel_rfl) rfl #[.int .i64 a0_1,.int .i64 0,.int .i64 1000] rfl (by (try simp only [List.map_toArray,List.map_cons,List.map_nil]); first | done|rfl|(simp only [List.length_drop,List.length_take]; rfl)) ?_; (with_reducible refine (spec_l01In.calls a0_1 0 1000 true _ A4.out).mono ?_); rintro e w' ⟨rfl,⟨nd,rfl⟩⟩; refine ⟨_,rfl,?_⟩) | (go_at_call 53; (with_reducible refine (spec_l01In.calls a0_0 a0_1 (wrap64 (a0_1 + 4)) true _ A6.out).mono ?_); rintro e w' ⟨rfl,⟨nd,rfl⟩⟩))
      go_meet
      case rel => exact ⟨_,(true),(by first|rfl|(simp; done)|(simp [*]; done)),H',⟨by first|omega|exact Nat.le_refl _⟩,⟨(bkT BK178.out)⟩,⟨bT HB⟩⟩
     ·
      rw [if_neg c8] at H
      have c8b0 : decide (30 < (l0_2.length : Int)) = false := decide_eq_false c8
      have c8b1 : decide (30 < l0_2.length) = false := decide_eq_false (by omega)
      clear c8
      (first | rw [c8b0]|(simp only [i64_w,i32_w]; rw [c8b0])|skip)
      by_cases c10 : (l0_2.length : Int) < (wrap64 (a0_0 - a0_1))
      ·
       rw [if_pos c10] at H
       have c10b0 : decide ((l0_2.length : Int) < (wrap64 (a0_0 - a0_1))) = true := decide_eq_true c10
       clear c10
       have H' := zA H
       clear H
       obtain ⟨_,_,_,_,_,_,_,_,_,_⟩ := cz5 BK178.out
       go_wp2_with (first | ((with_reducible refine gate_callee (f := 53) rfl ?_); refine goesL_ (some 7) rfl rfl Try.func53 (by kernel_rfl) rfl #[.int .i64 a0_1,.int .i64 0,.int .i64 1000] rfl (by (try simp only [List.map_toArray,List.map_cons,List.map_nil]); first | done|rfl|(simp only [List.length_drop,List.length_take]; rfl)) ?_; (with_reducible refine (spec_l01In.calls a0_1 0 1000 true _ A4.out).mono ?_); rintro e w' ⟨rfl,⟨nd,rfl⟩⟩; refine ⟨_,rfl,?_⟩) | (go_at_call 53; (with_reducible refine (spec_l01In.calls a0_0 a0_1 (wrap64 (a0_1 + 4)) true _ A6.out).mono ?_); rintro e w' ⟨rfl,⟨nd,rfl⟩⟩))
       go_meet
       case rel => exact ⟨_,(true),(by first|rfl|(simp; done)|(simp [*]; done)),H',⟨by first|omega|exact Nat.le_refl _⟩,⟨(bkT BK178.out)⟩,⟨bT HB⟩⟩
      ·
       rw [if_neg c10] at H
       have c10b0 : decide ((l0_2.length : Int) < (wrap64 (a0_0 - a0_1))) = false := decide_eq_false c10
       clear c10
       replace H := Option.bind_eq_some_iff.mp H
       obtain ⟨t181,A120,H⟩ := H
       replace H : (if t181 = true then (spec_EndOk.j0 k ((l0_4.length : Int) != a0_3) a0_0 a0_1 l0_2 a0_3 l0_4) else (spec_EndOk.j0 k true a0_0 a0_1 l0_2 a0_3 l0_4)) = some r := H
       have A12 := zA A120
       clear A120
       by_cases c13 : t181 = true
       ·
        subst c13
        have H1 : (spec_EndOk.j0 k ((l0_4.length : Int) != a0_3) a0_0 a0_1 l0_2 a0_3 l0_4) = some r := by rw [if_pos rfl] at H; exact H
        clear H; have H := H1; clear H1
        have H' := zA H
        clear H
        obtain ⟨_,_,_,_,_,_,_,_,_,_⟩ := cz5 BK178.out
        go_wp2_with (first | ((with_reducible refine gate_callee (f := 53) rfl ?_); refine goesL_ (some 7) rfl rfl Try.func53 (by kernel_rfl) rfl #[.int .i64 a0_1,.int .i64 0,.int .i64 1000] rfl (by (try simp only [List.map_toArray,List.map_cons,List.map_nil]); first | done|rfl|(simp only [List.length_drop,List.length_take]; rfl)) ?_; (with_reducible refine (spec_l01In.calls a0_1 0 1000 true _ A4.out).mono ?_); rintro e w' ⟨rfl,⟨nd,rfl⟩⟩; refine ⟨_,rfl,?_⟩) | (go_at_call 53; (with_reducible refine (spec_l01In.calls a0_0 a0_1 (wrap64 (a0_1 + 4)) true _ A6.out).mono ?_); rintro e w' ⟨rfl,⟨nd,rfl⟩⟩) | (go_at_call 53; (with_reducible refine (spec_l01In.calls a0_3 0 1000 true _ A12.out).mono ?_); rintro e w' ⟨rfl,⟨nd,rfl⟩⟩))
        go_meet
        case rel => exact ⟨_,(((l0_4.length : Int) != a0_3)),(by first|rfl|(simp; done)|(simp [*]; done)),H',⟨by first|omega|exact Nat.le_refl _⟩,⟨(bkT BK178.out)⟩,⟨bT HB⟩⟩
       ·
        replace c13 := Bool.eq_false_iff.mpr c13
        subst c13
        have H1 : (spec_EndOk.j0 k true a0_0 a0_1 l0_2 a0_3 l0_4) = some r := by rw [if_neg (show ¬ (false = true) by decide)] at H; exact H
        clear H; have H := H1; clear H1
        have H' := zA H
        clear H
        obtain ⟨_,_,_,_,_,_,_,_,_,_⟩ := cz5 BK178.out
        go_wp2_with (first | ((with_reducible refine gate_callee (f := 53) rfl ?_); refine goesL_ (some 7) rfl rfl Try.func53 (by kernel_rfl) rfl #[.int .i64 a0_1,.int .i64 0,.int .i64 1000] rfl (by (try simp only [List.map_toArray,List.map_cons,List.map_nil]); first | done|rfl|(simp only [List.length_drop,List.length_take]; rfl)) ?_; (with_reducible refine (spec_l01In.calls a0_1 0 1000 true _ A4.out).mono ?_); rintro e w' ⟨rfl,⟨nd,rfl⟩⟩; refine ⟨_,rfl,?_⟩) | (go_at_call 53; (with_reducible refine (spec_l01In.calls a0_0 a0_1 (wrap64 (a0_1 + 4)) true _ A6.out).mono ?_); rintro e w' ⟨rfl,⟨nd,rfl⟩⟩) | (go_at_call 53; (with_reducible refine (spec_l01In.calls a0_3 0 1000 false _ A12.out).mono ?_); rintro e w' ⟨rfl,⟨nd,rfl⟩⟩))
        go_meet
        case rel => exact ⟨_,(true),(by first|rfl|(simp; done)|(simp [*]; done)),H',⟨by first|omega|exact Nat.le_refl _⟩,⟨(bkT BK178.out)⟩,⟨bT HB⟩⟩
    ·
     replace c7 := Bool.eq_false_iff.mpr c7
     subst c7
     have H1 : (spec_EndOk.j0 k true a0_0 a0_1 l0_2 a0_3 l0_4) = some r := by rw [if_neg (show ¬ (false = true) by decide)] at H; exact H
     clear H; have H := H1; clear H1
     have H' := zA H
     clear H
     obtain ⟨_,_,_,_,_,_,_,_,_,_⟩ := cz5 BK178.out
     go_wp2_with (first | ((with_reducible refine gate_callee (f := 53) rfl ?_); refine goesL_ (some 7) rfl rfl Try.func53 (by kernel_rfl) rfl #[.int .i64 a0_1,.int .i64 0,.int .i64 1000] rfl (by (try simp only [List.map_toArray,List.map_cons,List.map_nil]); first | done|rfl|(simp only [List.length_drop,List.length_take]; rfl)) ?_; (with_reducible refine (spec_l01In.calls a0_1 0 1000 true _ A4.out).mono ?_); rintro e w' ⟨rfl,⟨nd,rfl⟩⟩; refine ⟨_,rfl,?_⟩) | (go_at_call 53; (with_reducible refine (spec_l01In.calls a0_0 a0_1 (wrap64 (a0_1 + 4)) false _ A6.out).mono ?_); rintro e w' ⟨rfl,⟨nd,rfl⟩⟩))
     go_meet
     case rel => exact ⟨_,(true),(by first|rfl|(simp; done)|(simp [*]; done)),H',⟨by first|omega|exact Nat.le_refl _⟩,⟨(bkT BK178.out)⟩,⟨bT HB⟩⟩
   ·
    replace c5 := Bool.eq_false_iff.mpr c5
    subst c5
    have H1 : (spec_EndOk.j0 k true a0_0 a0_1 l0_2 a0_3 l0_4) = some r := by rw [if_neg (show ¬ (false = true) by decide)] at H; exact H
    clear H; have H := H1; clear H1
    have H' := zA H
    clear H
    obtain ⟨_,_,_,_,_,_,_,_,_,_⟩ := cz5 BK178.out
    go_wp2_with (first | ((with_reducible refine gate_callee (f := 53) rfl ?_); refine goesL_ (some 7) rfl rfl Try.func53 (by kernel_rfl) rfl #[.int .i64 a0_1,.int .i64 0,.int .i64 1000] rfl (by (try simp only [List.map_toArray,List.map_cons,List.map_nil]); first | done|rfl|(simp only [List.length_drop,List.length_take]; rfl)) ?_; (with_reducible refine (spec_l01In.calls a0_1 0 1000 false _ A4.out).mono ?_); rintro e w' ⟨rfl,⟨nd,rfl⟩⟩; refine ⟨_,rfl,?_⟩))
    go_meet
    case rel => exact ⟨_,(true),(by first|rfl|(simp; done)|(simp [*]; done)),H',⟨by first|omega|exact Nat.le_refl _⟩,⟨(bkT BK178.out)⟩,⟨bT HB⟩⟩
  case rest =>
   clear HC2
   obtain ⟨kq,x50_1,rfl,HA,HJ1,BK178,HB⟩ := hcut
   cases kq with
   | zero => exact absurd HA.out (by simp [spec_EndOk.j0])
   | succ kj1 =>
    have H := HA.out
    clear HA
    simp only [spec_EndOk.j0] at H
    by_cases c18 : x50_1 = true
    ·
     subst c18
     have H1 : (some false) = some r := by rw [if_pos rfl] at H; exact H
     clear H; have H := H1; clear H1
     obtain rfl := Option.some.inj H
     go_wp2
     go_ret
     exact ⟨by first|rfl|(simp [errW_none,errW_some] <;> rfl)|(simp [*,errW_none,errW_some] <;> rfl),bT HB⟩
    ·
     replace c18 := Bool.eq_false_iff.mpr c18
     subst c18
     have H1 : (spec_EndOk.l0 kj1 0 a0_0 a0_1 l0_2 a0_3 l0_4) = some r := by rw [if_neg (show ¬ (false = true) by decide)] at H; exact H
     clear H; have H := H1; clear H1
     have H' := zA H
     clear H; go_wp2
     go_loopg [3] kj1 (fun kq v3 w' => ∃ (x3_2 : Int),v3 = .int .i64 x3_2 ∧ Aside0 (spec_EndOk.l0 kq x3_2 a0_0 a0_1 l0_2 a0_3 l0_4 = some r) ∧ Aside0 (kq ≤ kj1) ∧ Aside0 (w'.heap[gb178]? = some (.cells #[.int .i64 a0_0,.int .i64 a0_1,(.slice A0_2 l0_2.length c0_2),.int .i64 a0_3,(.slice A0_4 l0_4.length c0_4)] 26 (0,0))) ∧ Aside0 (Below w.heap.size w w'))
     case atStart => exact ⟨(0),(by first|rfl|(simp; done)|(simp [*]; done)),H',⟨Nat.le_refl _⟩,⟨(bkT BK178.out)⟩,⟨bT HB⟩⟩
     case round =>
      clear H'
      obtain ⟨x3_2,rfl,HA,HK2,BK178,HB⟩ := hrel
      cases gk with
      | zero => exact absurd HA.out (by simp [spec_EndOk.l0])
      | succ k2 =>
       have H := HA.out
       clear HA
       simp only [spec_EndOk.l0] at H
       by_cases c19 : x3_2 < (l0_2.length : Int)
       ·
        rw [if_pos c19] at H
        have c19b0 : decide (x3_2 < (l0_2.length : Int)) = true := decide_eq_true c19
        clear c19
        by_cases c20 : 0 ≤ x3_2
        ·
         rw [if_pos c20] at H
         have c20b0 : decide (0 ≤ x3_2) = true := decide_eq_true c20
         clear c20
         by_cases c21 : ((rdOf ByteArray.empty l0_2 x3_2).size : Int) > 60
         ·
          rw [if_pos c21] at H
          have c21b0 : decide (60 < ((rdOf ByteArray.empty l0_2 x3_2).size : Int)) = true := decide_eq_true c21
          have c21b1 : decide (60 < (rdOf ByteArray.empty l0_2 x3_2).size) = true := decide_eq_true (by omega)
          clear c21
          obtain rfl := Option.some.inj H
          obtain ⟨_,_,_,_,_,_,_,_,_,_⟩ := cz5 BK178.out
          have p182 : 0 ≤ (x3_2 : Int) := of_decide_eq_true (by first|(with_reducible assumption) | assumption)
          have q182 : x3_2 < (l0_2.length : Int) := of_decide_eq_true (by first|(with_reducible assumption) | assumption)
          obtain ⟨ad182,e182,hx182_0⟩ := Kd.at_string HR0_2.out x3_2 p182 q182
          cases e182
          replace hx182_0 := (HB.out.cell (World.block_lt_of_cell? w _ hx182_0)).trans hx182_0
          replace p182 := eq_true p182
          replace q182 := eq_true q182
          go_wp2
          go_ret
          exact ⟨by first|rfl|(simp [errW_none,errW_some] <;> rfl)|(simp [*,errW_none,errW_some] <;> rfl),bT HB⟩
         ·
          rw [if_neg c21] at H
          have c21b0 : decide (60 < ((rdOf ByteArray.empty l0_2 x3_2).size : Int)) = false := decide_eq_false c21
          have c21b1 : decide (60 < (rdOf ByteArray.empty l0_2 x3_2).size) = false := decide_eq_false (by omega)
          clear c21
          have H' := zA H
          clear H
          obtain ⟨_,_,_,_,_,_,_,_,_,_⟩ := cz5 BK178.out
          have p182 : 0 ≤ (x3_2 : Int) := of_decide_eq_true (by first|(with_reducible assumption) | assumption)
          have q182 : x3_2 < (l0_2.length : Int) := of_decide_eq_true (by first|(with_reducible assumption) | assumption)
          obtain ⟨ad182,e182,hx182_0⟩ := Kd.at_string HR0_2.out x3_2 p182 q182
          cases e182
          replace hx182_0 := (HB.out.cell (World.block_lt_of_cell? w _ hx182_0)).trans hx182_0
          replace p182 := eq_true p182
          replace q182 := eq_true q182
          go_wp2
          go_roundg k2
          case measure => have := HJ1.out; have := HK2.out; omega
          case rel => exact ⟨(wrap64 (x3_2 + 1)),(by first|rfl|(simp; done)|(simp [*]; done)),H',⟨by have := HJ1.out; have := HK2.out; omega⟩,⟨(bkT BK178.out)⟩,⟨bT HB⟩⟩
        ·
         rw [if_neg c20] at H
         exact absurd H (by simp)
       ·
        rw [if_neg c19] at H
        have c19b0 : decide (x3_2 < (l0_2.length : Int)) = false := decide_eq_false c19
        clear c19
        have H' := zA H
        clear H
        obtain ⟨_,_,_,_,_,_,_,_,_,_⟩ := cz5 BK178.out
        go_wp2
        go_loopg [4] k2 (fun kq v4 w' => ∃ (x4_3 : Int),v4 = .int .i64 x4_3 ∧ Aside0 (spec_EndOk.l1 kq x4_3 a0_0 a0_1 l0_2 a0_3 l0_4 = some r) ∧ Aside0 (kq ≤ k2) ∧ Aside0 (w'.heap[gb178]? = some (.cells #[.int .i64 a0_0,.int .i64 a0_1,(.slice A0_2 l0_2.length c0_2),.int .i64 a0_3,(.slice A0_4 l0_4.length c0_4)] 26 (0,0))) ∧ Aside0 (Below w.heap.size w w'))
        case atStart => exact ⟨(0),(by first|rfl|(simp; done)|(simp [*]; done)),H',⟨Nat.le_refl _⟩,⟨(bkT BK178.out)⟩,⟨bT HB⟩⟩
        case round =>
         clear H'
         obtain ⟨x4_3,rfl,HA,HK3,BK178,HB⟩ := hrel
         cases gk with
         | zero => exact absurd HA.out (by simp [spec_EndOk.l1])
         | succ k3 =>
          have H := HA.out
          clear HA
          simp only [spec_EndOk.l1] at H
          by_cases c25 : x4_3 < (l0_4.length : Int)
          ·
           rw [if_pos c25] at H
           have c25b0 : decide (x4_3 < (l0_4.length : Int)) = true := decide_eq_true c25
           clear c25
           by_cases c26 : 0 ≤ x4_3
           ·
            rw [if_pos c26] at H
            have c26b0 : decide (0 ≤ x4_3) = true := decide_eq_true c26
            clear c26
            by_cases c27 : ((rdOf ByteArray.empty l0_4 x4_3).size : Int) > 60
            ·
             rw [if_pos c27] at H
             have c27b0 : decide (60 < ((rdOf ByteArray.empty l0_4 x4_3).size : Int)) = true := decide_eq_true c27
             have c27b1 : decide (60 < (rdOf ByteArray.empty l0_4 x4_3).size) = true := decide_eq_true (by omega)
             clear c27
             obtain rfl := Option.some.inj H
             obtain ⟨_,_,_,_,_,_,_,_,_,_⟩ := cz5 BK178.out
             have p183 : 0 ≤ (x4_3 : Int) := of_decide_eq_true (by first|(with_reducible assumption) | assumption)
             have q183 : x4_3 < (l0_4.length : Int) := of_decide_eq_true (by first|(with_reducible assumption) | assumption)
             obtain ⟨ad183,e183,hx183_0⟩ := Kd.at_string HR0_4.out x4_3 p183 q183
             cases e183
             replace hx183_0 := (HB.out.cell (World.block_lt_of_cell? w _ hx183_0)).trans hx183_0
             replace p183 := eq_true p183
             replace q183 := eq_true q183
             go_wp2
             go_ret
             exact ⟨by first|rfl|(simp [errW_none,errW_some] <;> rfl)|(simp [*,errW_none,errW_some] <;> rfl),bT HB⟩
            ·
             rw [if_neg c27] at H
             have c27b0 : decide (60 < ((rdOf ByteArray.empty l0_4 x4_3).size : Int)) = false := decide_eq_false c27
             have c27b1 : decide (60 < (rdOf ByteArray.empty l0_4 x4_3).size) = false := decide_eq_false (by omega)
             clear c27
             have H' := zA H
             clear H
             obtain ⟨_,_,_,_,_,_,_,_,_,_⟩ := cz5 BK178.out
             have p183 : 0 ≤ (x4_3 : Int) := of_decide_eq_true (by first|(with_reducible assumption) | assumption)
             have q183 : x4_3 < (l0_4.length : Int) := of_decide_eq_true (by first|(with_reducible assumption) | assumption)
             obtain ⟨ad183,e183,hx183_0⟩ := Kd.at_string HR0_4.out x4_3 p183 q183
             cases e183
             replace hx183_0 := (HB.out.cell (World.block_lt_of_cell? w _ hx183_0)).trans hx183_0
             replace p183 := eq_true p183
             replace q183 := eq_true q183
             go_wp2
             go_roundg k3
             case measure => have := HJ1.out; have := HK2.out; have := HK3.out; omega
             case rel => exact ⟨(wrap64 (x4_3 + 1)),(by first|rfl|(simp; done)|(simp [*]; done)),H',⟨by have := HJ1.out; have := HK2.out; have := HK3.out; omega⟩,⟨(bkT BK178.out)⟩,⟨bT HB⟩⟩
           ·
            rw [if_neg c26] at H
            exact absurd H (by simp)
          ·
           rw [if_neg c25] at H
           have c25b0 : decide (x4_3 < (l0_4.length : Int)) = false := decide_eq_false c25
           clear c25
           obtain rfl := Option.some.inj H
           obtain ⟨_,_,_,_,_,_,_,_,_,_⟩ := cz5 BK178.out
           go_wp2
           go_ret
           exact ⟨by first|rfl|(simp [errW_none,errW_some] <;> rfl)|(simp [*,errW_none,errW_some] <;> rfl),bT HB⟩

end Go.Proofs.Ytlidnobkkgcnlaa.PFnLinks
