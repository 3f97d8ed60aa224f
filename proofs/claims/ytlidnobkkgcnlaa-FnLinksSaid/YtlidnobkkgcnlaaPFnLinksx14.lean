-- Written by a program out of the translation,for this claim.
import Derived.Test.YtlidnobkkgcnlaaPFnLinksx0
import Derived.Test.YtlidnobkkgcnlaaPFnLinksx13
namespace Go.Proofs.Ytlidnobkkgcnlaa.PFnLinks
open Go.RowKit Go.Proofs.YtlidnobkkgcnlaaW.PrintWords Go.Proofs.YtlidnobkkgcnlaaW.PrintLast Go.Proofs.YtlidnobkkgcnlaaW.PrintMore
attribute [local go_sem] max2_int min2_int max_two min_two max_three min_three max_four min_four   -- for this text's walks alone
set_option linter.unusedVariables false
set_option linter.unusedSimpArgs false
open Go.Proofs.YtlidnobkkgcnlaaW.PrintWords.Aside0 renaming mk → zA

/-! ### impl_EndOk: function 23 -/
def impl_EndOk.j0 : Nat → Bool → Int → Int → List ByteArray → Int → List ByteArray → Option (Bool)
  | 0,_,_,_,_,_,_ => none
  | k + 1,x29,x409000,x409001,x409002,x409003,x409004 => if x29 = true then (some false) else ((impl_inRange.f x409003 0 1000).bind fun t412 => (if t412 = true then (if (x409004.length : Int) = x409003 then ((impl_areShort.f k x409002).bind fun t413 => (if t413 = true then ((impl_areShort.f k x409004).bind fun t414 => (some t414)) else (some false))) else (some false)) else (some false)))
def impl_EndOk.f (k : Nat) (a0_0 : Int) (a0_1 : Int) (l0_2 : List ByteArray) (a0_3 : Int) (l0_4 : List ByteArray) : Option (Bool) := (impl_inRange.f a0_1 0 1000).bind fun t409 => (if t409 = true then ((impl_inRange.f a0_0 a0_1 (wrap64 (a0_1 + 4))).bind fun t410 => (if t410 = true then ((impl_inRange.f (l0_2.length : Int) (wrap64 (a0_0 - a0_1)) 30).bind fun t411 => (impl_EndOk.j0 k (!t411) a0_0 a0_1 l0_2 a0_3 l0_4)) else (impl_EndOk.j0 k true a0_0 a0_1 l0_2 a0_3 l0_4))) else (impl_EndOk.j0 k true a0_0 a0_1 l0_2 a0_3 l0_4))
theorem impl_EndOk.mono_l : ∀ k,(∀ y0 y1 y2 y3 y4 y5,LeO (impl_EndOk.j0 k y0 y1 y2 y3 y4 y5) (impl_EndOk.j0 (k + 1) y0 y1 y2 y3 y4 y5))
  | 0 => fun _ _ _ _ _ _ r h => by simp [impl_EndOk.j0] at h
  | k + 1 => by
   have ih0 := impl_EndOk.mono_l k
   ·
    intro y0 y1 y2 y3 y4 y5
    unfold impl_EndOk.j0
    repeat' first
   |(with_reducible exact ih0 _ _ _ _ _ _)
   |(with_reducible exact impl_areShort.mono _ _)
   |(with_reducible exact LeO.refl _)
   |(with_reducible exact LeO.none _)
   |(with_reducible refine LeO.ite ?_ ?_)
   |(with_reducible refine LeO.bind ?_ (fun _ => ?_))
   |exact ih0 _ _ _ _ _ _
   |exact impl_areShort.mono _ _
   |exact LeO.none _
   |refine LeO.ite ?_ ?_
   |refine LeO.bind ?_ (fun _ => ?_)
theorem impl_EndOk.mono : ∀ a0 a1 a2 a3 a4 k,LeO (impl_EndOk.f k a0 a1 a2 a3 a4) (impl_EndOk.f (k + 1) a0 a1 a2 a3 a4) := by
  intro a0 a1 a2 a3 a4 k
  have ih0 := impl_EndOk.mono_l k
  unfold impl_EndOk.f
  repeat' first
   |(with_reducible exact ih0 _ _ _ _ _ _)
   |(with_reducible exact impl_areShort.mono _ _)
   |(with_reducible exact LeO.refl _)
   |(with_reducible exact LeO.none _)
   |(with_reducible refine LeO.ite ?_ ?_)
   |(with_reducible refine LeO.bind ?_ (fun _ => ?_))
   |exact ih0 _ _ _ _ _ _
   |exact impl_areShort.mono _ _
   |exact LeO.none _
   |refine LeO.ite ?_ ?_
   |refine LeO.bind ?_ (fun _ => ?_)
set_option maxHeartbeats 8000000 in
set_option maxRecDepth 100000 in
theorem impl_EndOk.calls (k : Nat) (a0_0 : Int) (a0_1 : Int) (A0_2 : Option Addr) (c0_2 : Nat) (l0_2 : List ByteArray) (a0_3 : Int) (A0_4 : Option Addr) (c0_4 : Nat) (l0_4 : List ByteArray) (r : Bool) (w : World) (hr0_2 : Kd.C Kd.string w A0_2 l0_2.length l0_2) (hc0_2 : l0_2.length ≤ c0_2) (hr0_4 : Kd.C Kd.string w A0_4 l0_4.length l0_4) (hc0_4 : l0_4.length ≤ c0_4) (h : impl_EndOk.f k a0_0 a0_1 l0_2 a0_3 l0_4 = some r) :
   Calls Try.prog 23 #[.agg #[.int .i64 a0_0,.int .i64 a0_1,.slice A0_2 l0_2.length c0_2,.int .i64 a0_3,.slice A0_4 l0_4.length c0_4]] w fun e w' => e = .returned (.bool r) ∧ Below w.heap.size w w' := by
  have hu26 := Try.underlying26
  have HR0_2 := zA hr0_2
  have HC0_2 := zA hc0_2
  clear hr0_2 hc0_2
  have HR0_4 := zA hr0_4
  have HC0_4 := zA hc0_4
  clear hr0_4 hc0_4
  have HB := zA (Below.refl w.heap.size w)
  have H : ((impl_inRange.f a0_1 0 1000).bind fun t409 => (if t409 = true then ((impl_inRange.f a0_0 a0_1 (wrap64 (a0_1 + 4))).bind fun t410 => (if t410 = true then ((impl_inRange.f (l0_2.length : Int) (wrap64 (a0_0 - a0_1)) 30).bind fun t411 => (impl_EndOk.j0 k (!t411) a0_0 a0_1 l0_2 a0_3 l0_4)) else (impl_EndOk.j0 k true a0_0 a0_1 l0_2 a0_3 l0_4))) else (impl_EndOk.j0 k true a0_0 a0_1 l0_2 a0_3 l0_4))) = some r := h
  clear h
  have HC2 := zA H
  clear H
  go_enter Try.func23,Try.ntmps23
  go_upto_region 1 with (first | ((with_reducible refine gate_dst (N := 1) rfl ?_); (try (refine gate_guard (by rfl) ?_; dsimp only)); refine box_event ?hg (N := 1) ?hd (cs := #[.int .i64 a0_0,.int .i64 a0_1,.slice A0_2 l0_2.length c0_2,.int .i64 a0_3,.slice A0_4 l0_4.length c0_4]) (t := 26) ?hr ?_; (case hd => rfl); (case hg => rfl); (case hr => first | (go_simp; done) | (go_simp; rfl)); intro gb408 hg w3 hbox hb; have n0_ := zA (below_step (bT HB) hb); have n1_ := zA (hbox); have n2_ := zA ((by rw [hg]; exact (below_size (bT HB)) : w.heap.size ≤ gb408)); have n3_ := zA ((by rw [hg]; exact (below_size (bT HB)) : w.heap.size ≤ gb408)); clear HB; have HB := n0_; have BK408 := n1_; have GW408 := n2_; have GE408 := n3_; clear n0_ n1_ n2_ n3_ hb hbox hg))
  (try simp only [Act.put,List.setIfInBounds_toArray,List.set_cons_zero,List.set_cons_succ])
  go_cut [29] (fun v29 wc => ∃ (kq : Nat) (x29_1 : Bool),v29 = .bool x29_1 ∧ Aside0 (impl_EndOk.j0 kq x29_1 a0_0 a0_1 l0_2 a0_3 l0_4 = some r) ∧ Aside0 (kq ≤ k) ∧ Aside0 (wc.heap[gb408]? = some (.cells #[.int .i64 a0_0,.int .i64 a0_1,(.slice A0_2 l0_2.length c0_2),.int .i64 a0_3,(.slice A0_4 l0_4.length c0_4)] 26 (0,0))) ∧ Aside0 (Below w.heap.size w wc))
  case first =>
   have H := HC2.out
   clear HC2
   replace H := Option.bind_eq_some_iff.mp H
   obtain ⟨t409,A40,H⟩ := H
   replace H : (if t409 = true then ((impl_inRange.f a0_0 a0_1 (wrap64 (a0_1 + 4))).bind fun t410 => (if t410 = true then ((impl_inRange.f (l0_2.length : Int) (wrap64 (a0_0 - a0_1)) 30).bind fun t411 => (impl_EndOk.j0 k (!t411) a0_0 a0_1 l0_2 a0_3 l0_4)) else (impl_EndOk.j0 k true a0_0 a0_1 l0_2 a0_3 l0_4))) else (impl_EndOk.j0 k true a0_0 a0_1 l0_2 a0_3 l0_4)) = some r := H
   have A4 := zA A40
   clear A40
   by_cases c5 : t409 = true
   ·
    subst c5
    have H1 : ((impl_inRange.f a0_0 a0_1 (wrap64 (a0_1 + 4))).bind fun t410 => (if t410 = true then ((impl_inRange.f (l0_2.length : Int) (wrap64 (a0_0 - a0_1)) 30).bind fun t411 => (impl_EndOk.j0 k (!t411) a0_0 a0_1 l0_2 a0_3 l0_4)) else (impl_EndOk.j0 k true a0_0 a0_1 l0_2 a0_3 l0_4))) = some r := by rw [if_pos rfl] at H; exact H
    clear H; have H := H1; clear H1
    replace H := Option.bind_eq_some_iff.mp H
    obtain ⟨t410,A60,H⟩ := H
    replace H : (if t410 = true then ((impl_inRange.f (l0_2.length : Int) (wrap64 (a0_0 - a0_1)) 30).bind fun t411 => (impl_EndOk.j0 k (!t411) a0_0 a0_1 l0_2 a0_3 l0_4)) else (impl_EndOk.j0 k true a0_0 a0_1 l0_2 a0_3 l0_4)) = some r := H
    have A6 := zA A60
    clear A60
    by_cases c7 : t410 = true
    ·
     subst c7
     have H1 : ((impl_inRange.f (l0_2.length : Int) (wrap64 (a0_0 - a0_1)) 30).bind fun t411 => (impl_EndOk.j0 k (!t411) a0_0 a0_1 l0_2 a0_3 l0_4)) = some r := by rw [if_pos rfl] at H; exact H
     clear H; have H := H1; clear H1
     replace H := Option.bind_eq_some_iff.mp H
     obtain ⟨t411,A80,H⟩ := H
     replace H : (impl_EndOk.j0 k (!t411) a0_0 a0_1 l0_2 a0_3 l0_4) = some r := H
     have A8 := zA A80
     clear A80
     have H' := zA H
     clear H
     obtain ⟨_,_,_,_,_,_,_,_,_,_⟩ := cz5 BK408.out
     go_wp2_with (first | ((with_reducible refine gate_callee (f := 54) rfl ?_); refine goesL_ (some 5) rfl rfl Try.func54 (by kernel_rfl) rfl #[.int .i64 a0_1,.int .i64 0,.int .i64 1000] rfl (by (try simp only [List.map_toArray,List.map_cons,List.map_nil]); first | done|rfl|(simp only [List.length_drop,List.length_take]; rfl)) ?_; (with_reducible refine (impl_inRange.calls a0_1 0 1000 true _ A4.out).mono ?_); rintro e w' ⟨rfl,⟨nd,rfl⟩⟩; refine ⟨_,rfl,?_⟩) | (go_at_call 54; (with_reducible refine (impl_inRange.calls a0_0 a0_1 (wrap64 (a0_1 + 4)) true _ A6.out).mono ?_); rintro e w' ⟨rfl,⟨nd,rfl⟩⟩) | (go_at_call 54; (with_reducible refine (impl_inRange.calls (l0_2.length : Int) (wrap64 (a0_0 - a0_1)) 30 t411 _ A8.out).mono ?_); rintro e w' ⟨rfl,⟨nd,rfl⟩⟩))
     go_meet
     case rel => exact ⟨_,(!t411),(by first|rfl|(simp; done)|(simp [*]; done)),H',⟨by first|omega|exact Nat.le_refl _⟩,⟨(bkT BK408.out)⟩,⟨bT HB⟩⟩
    ·
     replace c7 := Bool.eq_false_iff.mpr c7
     subst c7
     have H1 : (impl_EndOk.j0 k true a0_0 a0_1 l0_2 a0_3 l0_4) = some r := by rw [if_neg (show ¬ (false = true) by decide)] at H; exact H
     clear H; have H := H1; clear H1
     have H' := zA H
     clear H
     obtain ⟨_,_,_,_,_,_,_,_,_,_⟩ := cz5 BK408.out
     go_wp2_with (first | ((with_reducible refine gate_callee (f := 54) rfl ?_); refine goesL_ (some 5) rfl rfl Try.func54 (by kernel_rfl) rfl #[.int .i64 a0_1,.int .i64 0,.int .i64 1000] rfl (by (try simp only [List.map_toArray,List.map_cons,List.map_nil]); first | done|rfl|(simp only [List.length_drop,List.length_take]; rfl)) ?_; (with_reducible refine (impl_inRange.calls a0_1 0 1000 true _ A4.out).mono ?_); rintro e w' ⟨rfl,⟨nd,rfl⟩⟩; refine ⟨_,rfl,?_⟩) | (go_at_call 54; (with_reducible refine (impl_inRange.calls a0_0 a0_1 (wrap64 (a0_1 + 4)) false _ A6.out).mono ?_); rintro e w' ⟨rfl,⟨nd,rfl⟩⟩))
     go_meet
     case rel => exact ⟨_,(true),(by first|rfl|(simp; done)|(simp [*]; done)),H',⟨by first|omega|exact Nat.le_refl _⟩,⟨(bkT BK408.out)⟩,⟨bT HB⟩⟩
   ·
    replace c5 := Bool.eq_false_iff.mpr c5
    subst c5
    have H1 : (impl_EndOk.j0 k true a0_0 a0_1 l0_2 a0_3 l0_4) = some r := by rw [if_neg (show ¬ (false = true) by decide)] at H; exact H
    clear H; have H := H1; clear H1
    have H' := zA H
    clear H
    obtain ⟨_,_,_,_,_,_,_,_,_,_⟩ := cz5 BK408.out
    go_wp2_with (first | ((with_reducible refine gate_callee (f := 54) rfl ?_); refine goesL_ (some 5) rfl rfl Try.func54 (by kernel_rfl) rfl #[.int .i64 a0_1,.int .i64 0,.int .i64 1000] rfl (by (try simp only [List.map_toArray,List.map_cons,List.map_nil]); first | done|rfl|(simp only [List.length_drop,List.length_take]; rfl)) ?_; (with_reducible refine (impl_inRange.calls a0_1 0 1000 false _ A4.out).mono ?_); rintro e w' ⟨rfl,⟨nd,rfl⟩⟩; refine ⟨_,rfl,?_⟩))
    go_meet
    case rel => exact ⟨_,(true),(by first|rfl|(simp; done)|(simp [*]; done)),H',⟨by first|omega|exact Nat.le_refl _⟩,⟨(bkT BK408.out)⟩,⟨bT HB⟩⟩
  case rest =>
   clear HC2
   obtain ⟨kq,x29_1,rfl,HA,HJ1,BK408,HB⟩ := hcut
   cases kq with
   | zero => exact absurd HA.out (by simp [impl_EndOk.j0])
   | succ kj1 =>
    have H := HA.out
    clear HA
    simp only [impl_EndOk.j0] at H
    by_cases c12 : x29_1 = true
    ·
     subst c12
     have H1 : (some false) = some r := by rw [if_pos rfl] at H; exact H
     clear H; have H := H1; clear H1
     obtain rfl := Option.some.inj H
     go_wp2
     go_ret
     exact ⟨by first|rfl|(simp [errW_none,errW_some] <;> rfl)|(simp [*,errW_none,errW_some] <;> rfl),bT HB⟩
    ·
     replace c12 := Bool.eq_false_iff.mpr c12
     subst c12
     have H1 : ((impl_inRange.f a0_3 0 1000).bind fun t412 => (if t412 = true then (if (l0_4.length : Int) = a0_3 then ((impl_areShort.f kj1 l0_2).bind fun t413 => (if t413 = true then ((impl_areShort.f kj1 l0_4).bind fun t414 => (some t414)) else (some false))) else (some false)) else (some false))) = some r := by rw [if_neg (show ¬ (false = true) by decide)] at H; exact H
     clear H; have H := H1; clear H1
     replace H := Option.bind_eq_some_iff.mp H
     obtain ⟨t412,A130,H⟩ := H
     replace H : (if t412 = true then (if (l0_4.length : Int) = a0_3 then ((impl_areShort.f kj1 l0_2).bind fun t413 => (if t413 = true then ((impl_areShort.f kj1 l0_4).bind fun t414 => (some t414)) else (some false))) else (some false)) else (some false)) = some r := H
     have A13 := zA A130
     clear A130
     by_cases c14 : t412 = true
     ·
      subst c14
      have H1 : (if (l0_4.length : Int) = a0_3 then ((impl_areShort.f kj1 l0_2).bind fun t413 => (if t413 = true then ((impl_areShort.f kj1 l0_4).bind fun t414 => (some t414)) else (some false))) else (some false)) = some r := by rw [if_pos rfl] at H; exact H
      clear H; have H := H1; clear H1
      by_cases c15 : (l0_4.length : Int) = a0_3
      ·
       rw [if_pos c15] at H
       have c15b0 : ((l0_4.length : Int) == a0_3) = true := beq_iff_eq.mpr c15
       have c15b1 : ((l0_4.length : Int) != a0_3) = false := bne_eq_false_iff_eq.mpr c15
       clear c15
       replace H := Option.bind_eq_some_iff.mp H
       obtain ⟨t413,A160,H⟩ := H
       replace H : (if t413 = true then ((impl_areShort.f kj1 l0_4).bind fun t414 => (some t414)) else (some false)) = some r := H
       have A16 := zA A160
       clear A160
       by_cases c17 : t413 = true
       ·
        subst c17
        have H1 : ((impl_areShort.f kj1 l0_4).bind fun t414 => (some t414)) = some r := by rw [if_pos rfl] at H; exact H
        clear H; have H := H1; clear H1
        replace H := Option.bind_eq_some_iff.mp H
        obtain ⟨t414,A180,H⟩ := H
        replace H : (some t414) = some r := H
        have A18 := zA A180
        clear A180
        obtain rfl := Option.some.inj H
        obtain ⟨_,_,_,_,_,_,_,_,_,_⟩ := cz5 BK408.out
        go_wp2_with (first | ((with_reducible refine gate_callee (f := 54) rfl ?_); refine goesL_ (some 32) rfl rfl Try.func54 (by kernel_rfl) rfl #[.int .i64 a0_3,.int .i64 0,.int .i64 1000] rfl (by (try simp only [List.map_toArray,List.map_cons,List.map_nil]); first | done|rfl|(simp only [List.length_drop,List.length_take]; rfl)) ?_; (with_reducible refine (impl_inRange.calls a0_3 0 1000 true _ A13.out).mono ?_); rintro e w' ⟨rfl,⟨nd,rfl⟩⟩; refine ⟨_,rfl,?_⟩) | (go_at_call 55; (with_reducible refine (impl_areShort.calls kj1 _ _ l0_2 true _ ?side1 ?side2 A16.out).mono ?_); (case side1 => exact ccT (Kd.C_below HR0_2.out (bT HB))); (case side2 => exact HC0_2.out); rintro e w' ⟨rfl,⟨nd,rfl⟩⟩) | (go_at_call 55; (with_reducible refine (impl_areShort.calls kj1 _ _ l0_4 t414 _ ?side1 ?side2 A18.out).mono ?_); (case side1 => exact ccT (Kd.C_below HR0_4.out (bT HB))); (case side2 => exact HC0_4.out); rintro e w' ⟨rfl,⟨nd,rfl⟩⟩))
        go_ret
        exact ⟨by first|rfl|(simp [errW_none,errW_some] <;> rfl)|(simp [*,errW_none,errW_some] <;> rfl),bT HB⟩
       ·
        replace c17 := Bool.eq_false_iff.mpr c17
        subst c17
        have H1 : (some false) = some r := by rw [if_neg (show ¬ (false = true) by decide)] at H; exact H
        clear H; have H := H1; clear H1
        obtain rfl := Option.some.inj H
        obtain ⟨_,_,_,_,_,_,_,_,_,_⟩ := cz5 BK408.out
        go_wp2_with (first | ((with_reducible refine gate_callee (f := 54) rfl ?_); refine goesL_ (some 32) rfl rfl Try.func54 (by kernel_rfl) rfl #[.int .i64 a0_3,.int .i64 0,.int .i64 1000] rfl (by (try simp only [List.map_toArray,List.map_cons,List.map_nil]); first | done|rfl|(simp only [List.length_drop,List.length_take]; rfl)) ?_; (with_reducible refine (impl_inRange.calls a0_3 0 1000 true _ A13.out).mono ?_); rintro e w' ⟨rfl,⟨nd,rfl⟩⟩; refine ⟨_,rfl,?_⟩) | (go_at_call 55; (with_reducible refine (impl_areShort.calls kj1 _ _ l0_2 false _ ?side1 ?side2 A16.out).mono ?_); (case side1 => exact ccT (Kd.C_below HR0_2.out (bT HB))); (case side2 => exact HC0_2.out); rintro e w' ⟨rfl,⟨nd,rfl⟩⟩))
        go_ret
        exact ⟨by first|rfl|(simp [errW_none,errW_some] <;> rfl)|(simp [*,errW_none,errW_some] <;> rfl),bT HB⟩
      ·
       rw [if_neg c15] at H
       have c15b0 : ((l0_4.length : Int) == a0_3) = false := beq_eq_false_iff_ne.mpr c15
       have c15b1 : ((l0_4.length : Int) != a0_3) = true := bne_iff_ne.mpr c15
       obtain rfl := Option.some.inj H
       obtain ⟨_,_,_,_,_,_,_,_,_,_⟩ := cz5 BK408.out
       go_wp2_with (first | ((with_reducible refine gate_callee (f := 54) rfl ?_); refine goesL_ (some 32) rfl rfl Try.func54 (by kernel_rfl) rfl #[.int .i64 a0_3,.int .i64 0,.int .i64 1000] rfl (by (try simp only [List.map_toArray,List.map_cons,List.map_nil]); first | done|rfl|(simp only [List.length_drop,List.length_take]; rfl)) ?_; (with_reducible refine (impl_inRange.calls a0_3 0 1000 true _ A13.out).mono ?_); rintro e w' ⟨rfl,⟨nd,rfl⟩⟩; refine ⟨_,rfl,?_⟩))
       go_ret
       exact ⟨by first|rfl|(simp [errW_none,errW_some] <;> rfl)|(simp [*,errW_none,errW_some] <;> rfl),bT HB⟩
     ·
      replace c14 := Bool.eq_false_iff.mpr c14
      subst c14
      have H1 : (some false) = some r := by rw [if_neg (show ¬ (false = true) by decide)] at H; exact H
      clear H; have H := H1; clear H1
      obtain rfl := Option.some.inj H
      obtain ⟨_,_,_,_,_,_,_,_,_,_⟩ := cz5 BK408.out
      go_wp2_with (first | ((with_reducible refine gate_callee (f := 54) rfl ?_); refine goesL_ (some 32) rfl rfl Try.func54 (by kernel_rfl) rfl #[.int .i64 a0_3,.int .i64 0,.int .i64 1000] rfl (by (try simp only [List.map_toArray,List.map_cons,List.map_nil]); first | done|rfl|(simp only [List.length_drop,List.length_take]; rfl)) ?_; (with_reducible refine (impl_inRange.calls a0_3 0 1000 false _ A13.out).mono ?_); rintro e w' ⟨rfl,⟨nd,rfl⟩⟩; refine ⟨_,rfl,?_⟩))
      go_ret
      exact ⟨by first|rfl|(simp [errW_none,errW_some] <;> rfl)|(simp [*,errW_none,errW_some] <;> rfl),bT HB⟩

end Go.Proofs.Ytlidnobkkgcnlaa.PFnLinks
