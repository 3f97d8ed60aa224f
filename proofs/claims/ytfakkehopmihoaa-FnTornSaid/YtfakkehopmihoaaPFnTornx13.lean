-- Written by a program out of the translation, for this claim.
import Derived.Test.YtfakkehopmihoaaPFnTornx0
import Derived.Test.YtfakkehopmihoaaPFnTornx1
import Derived.Test.YtfakkehopmihoaaPFnTornx3
import Derived.Test.YtfakkehopmihoaaPFnTornx5
import Derived.Test.YtfakkehopmihoaaPFnTornx8
import Derived.Test.YtfakkehopmihoaaPFnTornx9
import Derived.Test.YtfakkehopmihoaaPFnTornx12
namespace Go.Proofs.Ytfakkehopmihoaa.PFnTorn
open Go.RowKit Go.Proofs.YtfakkehopmihoaaW.PrintWords Go.Proofs.YtfakkehopmihoaaW.PrintLast Go.Proofs.YtfakkehopmihoaaW.PrintMore
attribute [local go_sem] binOp_gtr_str binOp_geq_str max2_int min2_int max_two min_two max_three min_three max_four min_four   -- for this text's walks alone
set_option linter.unusedVariables false
set_option linter.unusedSimpArgs false
theorem rrA {p q : Prop} (h : p) (f : p → q := by (intro h_; (with_reducible repeat (first | apply Kd.R_alloc | apply Kd.R_drewN | apply Kd.R_drew)); exact h_)) : q := f h
theorem rrB {p q : Prop} (h : p) (f : p → q := by (intro h_; (with_reducible repeat (first | refine blk_drewN ?_ _ | refine blk_drew ?_ | refine blk_alloc ?_ _)); exact h_)) : q := f h

/-! ### laws_FnTorn: function 7 -/
def laws_FnTorn.j0 : Nat → List Int → ByteArray → Option (Bool)
  | 0, _, _ => none
  | k + 1, x4, x5 => (impl_FrameOf.f k x5).bind fun bt208 => (if bt208.1.size ≤ 140737488355328 then ((some (bytesOf bt208.1 : List Int)).bind fun y210 => (if 0 < (x4.length : Int) then (if (wrap64 ((y210.length : Int) - 1)) = 0 then (none) else (if 0 ≤ (wrap64 (1 + (Int.tmod (rd x4 0) (wrap64 ((y210.length : Int) - 1))))) then (if (wrap64 (1 + (Int.tmod (rd x4 0) (wrap64 ((y210.length : Int) - 1))))) < (y210.length : Int) then (if 1 < (x4.length : Int) then ((some (y210.set ((wrap64 (1 + (Int.tmod (rd x4 0) (wrap64 ((y210.length : Int) - 1))))) : Int).toNat (Go.bits .xor .u8 (rd y210 (wrap64 (1 + (Int.tmod (rd x4 0) (wrap64 ((y210.length : Int) - 1)))))) ((wrap64 (1 + (Int.tmod (rd x4 1) 255))) % 256)) : List Int)).bind fun y216 => ((impl_FeedReader.f k (⟨#[]⟩ : ByteArray) false (strOfNums y216)).bind fun bt217 => ((impl_FeedReader.f k bt217.1 bt217.2.1 bt208.1).bind fun bt223 => ((spec_FeedReader.f k (⟨#[]⟩ : ByteArray) false (strOfNums y216)).bind fun bt229 => (if bt208.2 = true then (if (bt217.2.1 != bt229.2.1) = true then (some false) else (if bt217.1.toList = bt229.1.toList then (if bt217.2.1 = true then (if (bt217.2.2.length : Int) = 0 then (if (bt223.2.2.length : Int) = 0 then (some bt223.2.1) else (some false)) else (some false)) else (if (bt217.2.2.length : Int) = 1 then (some true) else (some false))) else (some false))) else (some false)))))) else (none)) else (none)) else (none))) else (none))) else (none))
def laws_FnTorn.f (k : Nat) (l0 : List Int) : Option (Bool) := (laws_big.f l0).bind fun t200 => (if t200 = true then (some true) else ((spec_DrawTexts.f k l0).bind fun t201 => ((spec_DrawPlaces.f k l0).bind fun t204 => (if (t201.length : Int) > 0 then (if 0 < (t201.length : Int) then (if 4 + (rdOf ByteArray.empty t201 0).size ≤ 9223372036854775807 then (laws_FnTorn.j0 k t204 ((⟨#[115, 111, 109, 101]⟩ : ByteArray) ++ (rdOf ByteArray.empty t201 0))) else (none)) else (none)) else (laws_FnTorn.j0 k t204 (⟨#[115, 111, 109, 101]⟩ : ByteArray))))))
theorem laws_FnTorn.mono_l : ∀ k, (∀ y0 y1, LeO (laws_FnTorn.j0 k y0 y1) (laws_FnTorn.j0 (k + 1) y0 y1))
  | 0 => fun _ _ r h => by simp [laws_FnTorn.j0] at h
  | k + 1 => by
   have ih0 := laws_FnTorn.mono_l k
   ·
    intro y0 y1
    unfold laws_FnTorn.j0
    repeat' first
    | (with_reducible exact ih0 _ _)
    | (with_reducible exact impl_FeedReader.mono _ _ _ _)
    | (with_reducible exact impl_FrameOf.mono _ _)
    | (with_reducible exact spec_DrawPlaces.mono _ _)
    | (with_reducible exact spec_DrawTexts.mono _ _)
    | (with_reducible exact spec_FeedReader.mono _ _ _ _)
    | (with_reducible exact LeO.refl _)
    | (with_reducible exact LeO.none _)
    | (with_reducible refine LeO.ite ?_ ?_)
    | (with_reducible refine LeO.bind ?_ (fun _ => ?_))
    | exact ih0 _ _
    | exact impl_FeedReader.mono _ _ _ _
    | exact impl_FrameOf.mono _ _
    | exact spec_DrawPlaces.mono _ _
    | exact spec_DrawTexts.mono _ _
    | exact spec_FeedReader.mono _ _ _ _
    | exact LeO.none _
    | refine LeO.ite ?_ ?_
    | refine LeO.bind ?_ (fun _ => ?_)
theorem laws_FnTorn.mono : ∀ a0 k, LeO (laws_FnTorn.f k a0) (laws_FnTorn.f (k + 1) a0) := by
  intro a0 k
  have ih0 := laws_FnTorn.mono_l k
  unfold laws_FnTorn.f
  repeat' first
    | (with_reducible exact ih0 _ _)
    | (with_reducible exact impl_FeedReader.mono _ _ _ _)
    | (with_reducible exact impl_FrameOf.mono _ _)
    | (with_reducible exact spec_DrawPlaces.mono _ _)
    | (with_reducible exact spec_DrawTexts.mono _ _)
    | (with_reducible exact spec_FeedReader.mono _ _ _ _)
    | (with_reducible exact LeO.refl _)
    | (with_reducible exact LeO.none _)
    | (with_reducible refine LeO.ite ?_ ?_)
    | (with_reducible refine LeO.bind ?_ (fun _ => ?_))
    | exact ih0 _ _
    | exact impl_FeedReader.mono _ _ _ _
    | exact impl_FrameOf.mono _ _
    | exact spec_DrawPlaces.mono _ _
    | exact spec_DrawTexts.mono _ _
    | exact spec_FeedReader.mono _ _ _ _
    | exact LeO.none _
    | refine LeO.ite ?_ ?_
    | refine LeO.bind ?_ (fun _ => ?_)
def laws_FnTorn.T11 : Bool × List (List Nat × List Nat) := (true, [([], []), ([], []), ([], []), ([], []), ([2, 3], [2, 3]), ([4], [4]), ([], []), ([6], [6]), ([7], [7]), ([8], [8]), ([9], [9]), ([10], [10]), ([5, 11], [5, 11]), ([0, 1, 0, 1, 2, 3, 4, 5, 6, 7, 8, 9, 10, 11, 12], [0, 1]), ([13, 12, 0, 1, 2, 3, 4, 5, 6, 7, 8, 9, 10, 11, 12], [12, 13])])
def laws_FnTorn.B11 : List Nat := [0, 0, 0, 0, 12, 28, 0, 64, 192, 448, 960, 1984, 4092, 8191, 16383]
theorem laws_FnTorn.tab11 : rtab .any (opsOf Try.f7 11) = laws_FnTorn.T11 := by kernel_rfl
theorem laws_FnTorn.bits11 : waitsOk laws_FnTorn.T11.2 laws_FnTorn.B11 = true := by kernel_rfl
set_option maxHeartbeats 8000000 in
set_option maxRecDepth 100000 in
theorem laws_FnTorn.calls (k : Nat) (A0 : Option Addr) (c0 : Nat) (l0 : List Int) (r : Bool) (w : World) (hr0 : Kd.C (Kd.int .u8) w A0 l0.length l0) (hc0 : l0.length ≤ c0) (h : laws_FnTorn.f k l0 = some r) (hT9 : r = true) :
    Calls Try.prog 7 #[.slice A0 l0.length c0] w fun e w' => e = .returned (.bool r) ∧ Below w.heap.size w w' := by
  have HT9 := Aside0.mk hT9
  clear hT9
  have hu48 := Try.underlying48
  have HR0 := Aside0.mk hr0
  have HC0 := Aside0.mk hc0
  clear hr0 hc0
  have HB := Aside0.mk (Below.refl w.heap.size w)
  have H : ((laws_big.f l0).bind fun t200 => (if t200 = true then (some true) else ((spec_DrawTexts.f k l0).bind fun t201 => ((spec_DrawPlaces.f k l0).bind fun t204 => (if (t201.length : Int) > 0 then (if 0 < (t201.length : Int) then (if 4 + (rdOf ByteArray.empty t201 0).size ≤ 9223372036854775807 then (laws_FnTorn.j0 k t204 ((⟨#[115, 111, 109, 101]⟩ : ByteArray) ++ (rdOf ByteArray.empty t201 0))) else (none)) else (none)) else (laws_FnTorn.j0 k t204 (⟨#[115, 111, 109, 101]⟩ : ByteArray))))))) = some r := h
  clear h
  replace H := Option.bind_eq_some_iff.mp H
  obtain ⟨t200, A20, H⟩ := H
  replace H : (if t200 = true then (some true) else ((spec_DrawTexts.f k l0).bind fun t201 => ((spec_DrawPlaces.f k l0).bind fun t204 => (if (t201.length : Int) > 0 then (if 0 < (t201.length : Int) then (if 4 + (rdOf ByteArray.empty t201 0).size ≤ 9223372036854775807 then (laws_FnTorn.j0 k t204 ((⟨#[115, 111, 109, 101]⟩ : ByteArray) ++ (rdOf ByteArray.empty t201 0))) else (none)) else (none)) else (laws_FnTorn.j0 k t204 (⟨#[115, 111, 109, 101]⟩ : ByteArray)))))) = some r := H
  have A2 := Aside0.mk A20
  clear A20
  by_cases c3 : t200 = true
  ·
   subst c3
   have H1 : (some true) = some r := by rw [if_pos rfl] at H; exact H
   clear H; have H := H1; clear H1
   obtain rfl := Option.some.inj H
   go_enter Try.func7, Try.ntmps7
   go_wp2_with (first | ((with_reducible refine gate_callee (f := 15) rfl ?_); refine goesL_ (some 17) rfl rfl Try.func15 (by kernel_rfl) rfl #[.slice A0 l0.length c0] rfl (by (try simp only [List.map_toArray, List.map_cons, List.map_nil]); first | done | rfl | (simp only [List.length_drop, List.length_take]; rfl)) ?_; (with_reducible refine (laws_big.calls _ _ l0 true _ ?side1 ?side2 A2.out).mono ?_); (case side1 => repeat (first | exact HR0.out | (with_reducible refine Kd.C_alloc ?_ _) | (with_reducible refine Kd.C_drewN ?_ _) | (with_reducible refine Kd.C_drew ?_))); (case side2 => exact HC0.out); rintro e w' ⟨rfl, ⟨nd, rfl⟩⟩; refine ⟨_, rfl, ?_⟩))
   go_ret
   exact ⟨by first | rfl | (simp [errW_none, errW_some] <;> rfl) | (simp [*, errW_none, errW_some] <;> rfl), by repeat (first | (with_reducible first | exact HB.out | apply below_alloc | apply pw_below_drewN | apply below_drew1) | exact HB.out)⟩
  ·
   replace c3 := Bool.eq_false_iff.mpr c3
   subst c3
   have H1 : ((spec_DrawTexts.f k l0).bind fun t201 => ((spec_DrawPlaces.f k l0).bind fun t204 => (if (t201.length : Int) > 0 then (if 0 < (t201.length : Int) then (if 4 + (rdOf ByteArray.empty t201 0).size ≤ 9223372036854775807 then (laws_FnTorn.j0 k t204 ((⟨#[115, 111, 109, 101]⟩ : ByteArray) ++ (rdOf ByteArray.empty t201 0))) else (none)) else (none)) else (laws_FnTorn.j0 k t204 (⟨#[115, 111, 109, 101]⟩ : ByteArray))))) = some r := by rw [if_neg (show ¬ (false = true) by decide)] at H; exact H
   clear H; have H := H1; clear H1
   replace H := Option.bind_eq_some_iff.mp H
   obtain ⟨t201, A40, H⟩ := H
   replace H : ((spec_DrawPlaces.f k l0).bind fun t204 => (if (t201.length : Int) > 0 then (if 0 < (t201.length : Int) then (if 4 + (rdOf ByteArray.empty t201 0).size ≤ 9223372036854775807 then (laws_FnTorn.j0 k t204 ((⟨#[115, 111, 109, 101]⟩ : ByteArray) ++ (rdOf ByteArray.empty t201 0))) else (none)) else (none)) else (laws_FnTorn.j0 k t204 (⟨#[115, 111, 109, 101]⟩ : ByteArray)))) = some r := H
   have A4 := Aside0.mk A40
   clear A40
   replace H := Option.bind_eq_some_iff.mp H
   obtain ⟨t204, A50, H⟩ := H
   replace H : (if (t201.length : Int) > 0 then (if 0 < (t201.length : Int) then (if 4 + (rdOf ByteArray.empty t201 0).size ≤ 9223372036854775807 then (laws_FnTorn.j0 k t204 ((⟨#[115, 111, 109, 101]⟩ : ByteArray) ++ (rdOf ByteArray.empty t201 0))) else (none)) else (none)) else (laws_FnTorn.j0 k t204 (⟨#[115, 111, 109, 101]⟩ : ByteArray))) = some r := H
   have A5 := Aside0.mk A50
   clear A50
   have HC6 := Aside0.mk H
   clear H
   go_enter Try.func7, Try.ntmps7
   go_upto_if 24 with (first | ((with_reducible refine gate_callee (f := 15) rfl ?_); refine goesL_ (some 17) rfl rfl Try.func15 (by kernel_rfl) rfl #[.slice A0 l0.length c0] rfl (by (try simp only [List.map_toArray, List.map_cons, List.map_nil]); first | done | rfl | (simp only [List.length_drop, List.length_take]; rfl)) ?_; (with_reducible refine (laws_big.calls _ _ l0 false _ ?side1 ?side2 A2.out).mono ?_); (case side1 => repeat (first | exact HR0.out | (with_reducible refine Kd.C_alloc ?_ _) | (with_reducible refine Kd.C_drewN ?_ _) | (with_reducible refine Kd.C_drew ?_))); (case side2 => exact HC0.out); rintro e w' ⟨rfl, ⟨nd, rfl⟩⟩; refine ⟨_, rfl, ?_⟩) | ((with_reducible refine gate_callee (f := 30) rfl ?_); refine goesL_ (some 19) rfl rfl Try.func30 (by kernel_rfl) rfl #[.slice A0 l0.length c0] rfl (by (try simp only [List.map_toArray, List.map_cons, List.map_nil]); first | done | rfl | (simp only [List.length_drop, List.length_take]; rfl)) ?_; (with_reducible refine (spec_DrawTexts.calls k _ _ l0 t201 _ ?side1 ?side2 A4.out).mono ?_); (case side1 => repeat (first | exact HR0.out | (with_reducible refine Kd.C_alloc ?_ _) | (with_reducible refine Kd.C_drewN ?_ _) | (with_reducible refine Kd.C_drew ?_))); (case side2 => exact HC0.out); rintro e w7 ⟨v202, rfl, ho0, hb⟩; refine ⟨_, rfl, ?_⟩; have n0_ := Aside0.mk (Kd.R_lower ho0 (below_size (by repeat (first | (with_reducible first | exact HB.out | apply below_alloc | apply pw_below_drewN | apply below_drew1) | exact HB.out)))); have n1_ := Aside0.mk (below_step (by repeat (first | (with_reducible first | exact HB.out | apply below_alloc | apply pw_below_drewN | apply below_drew1) | exact HB.out)) hb); clear HB; have HO203 := n0_; have HB := n1_; clear n0_ n1_; (try clear hb); (try clear hb2); (try clear hk); (try clear hi); (try clear ho0)) | ((with_reducible refine gate_callee (f := 25) rfl ?_); refine goesL_ (some 21) rfl rfl Try.func25 (by kernel_rfl) rfl #[.slice A0 l0.length c0] rfl (by (try simp only [List.map_toArray, List.map_cons, List.map_nil]); first | done | rfl | (simp only [List.length_drop, List.length_take]; rfl)) ?_; (with_reducible refine (spec_DrawPlaces.calls k _ _ l0 t204 _ ?side1 ?side2 A5.out).mono ?_); (case side1 => repeat (first | exact (Kd.C_below HR0.out HB.out) | (with_reducible refine Kd.C_alloc ?_ _) | (with_reducible refine Kd.C_drewN ?_ _) | (with_reducible refine Kd.C_drew ?_))); (case side2 => exact HC0.out); rintro e w8 ⟨v205, rfl, ho0, hb⟩; refine ⟨_, rfl, ?_⟩; have n0_ := Aside0.mk (Kd.R_below (rrA HO203.out) hb); have n1_ := Aside0.mk (Kd.R_lower ho0 (below_size (by repeat (first | (with_reducible first | exact HB.out | apply below_alloc | apply pw_below_drewN | apply below_drew1) | exact HB.out)))); have n2_ := Aside0.mk (below_step (by repeat (first | (with_reducible first | exact HB.out | apply below_alloc | apply pw_below_drewN | apply below_drew1) | exact HB.out)) hb); clear HO203; clear HB; have HO203 := n0_; have HO206 := n1_; have HB := n2_; clear n0_ n1_ n2_; (try clear hb); (try clear hb2); (try clear hk); (try clear hi); (try clear ho0); obtain ⟨Ao9, co9, eo9⟩ := Kd.R_slice HO203.out; subst eo9))
   (try simp only [Act.put, List.setIfInBounds_toArray, List.set_cons_zero, List.set_cons_succ])
   go_cut [5] (fun v5 wc => ∃ (kq : Nat) (x5_5 : ByteArray), v5 = .string x5_5 ∧ Aside0 (laws_FnTorn.j0 kq t204 x5_5 = some r) ∧ Aside0 (kq ≤ k) ∧ Aside0 (Kd.R (Kd.int .i64) 3 wc w.heap.size (fun _ => True) v205 t204) ∧ Aside0 (Below w.heap.size w wc))
   case first =>
    have H := HC6.out
    clear HC6
    by_cases c10 : (t201.length : Int) > 0
    ·
     rw [if_pos c10] at H
     have c10b0 : decide (0 < (t201.length : Int)) = true := decide_eq_true c10
     have c10b1 : decide (0 < t201.length) = true := decide_eq_true (by omega)
     clear c10
     (first | rw [c10b0] | rw [c10b1] | (simp only [i64_w, i32_w]; first | rw [c10b0] | rw [c10b1]) | skip)
     by_cases c11 : 0 < (t201.length : Int)
     ·
      rw [if_pos c11] at H
      have c11b0 : decide (0 < (t201.length : Int)) = true := decide_eq_true c11
      have c11b1 : decide (0 < t201.length) = true := decide_eq_true (by omega)
      clear c11
      by_cases c12 : 4 + (rdOf ByteArray.empty t201 0).size ≤ 9223372036854775807
      ·
       rw [if_pos c12] at H
       have c12b0 := eq_true c12
       have c12b1 : decide (4 + (rdOf ByteArray.empty t201 0).size ≤ 9223372036854775807) = true := decide_eq_true c12
       try have c12b2 : (9223372036854775807 < 4 + (rdOf ByteArray.empty t201 0).size) = False := eq_false (Nat.not_lt.2 c12)
       have H' := Aside0.mk H
       clear H
       have p207 : 0 ≤ (0 : Int) := (by omega)
       have q207 : 0 < (t201.length : Int) := of_decide_eq_true (by first | (with_reducible assumption) | assumption)
       obtain ⟨ad207, e207, hx207_0⟩ := Kd.at_string (Kd.R_reads' HO203.out).2.2 0 p207 q207
       cases e207
       have qi207 : (0 < t201.length) = True := eq_true (by omega)
       (try rw [show ((0 : Int)).toNat = 0 from rfl] at hx207_0)
       (try rw [Addr.add_zero'] at hx207_0)
       replace p207 := eq_true p207
       replace q207 := eq_true q207
       go_wp2
       go_meet
       case rel => exact ⟨_, ((⟨#[115, 111, 109, 101]⟩ : ByteArray) ++ (rdOf ByteArray.empty t201 0)), (by first | rfl | (simp; done) | (simp [*]; done)), H', ⟨by first | omega | exact Nat.le_refl _⟩, ⟨(rrA HO206.out)⟩, ⟨by repeat (first | (with_reducible first | exact HB.out | apply below_alloc | apply pw_below_drewN | apply below_drew1) | exact HB.out)⟩⟩
      ·
       rw [if_neg c12] at H
       exact absurd H (by simp)
     ·
      rw [if_neg c11] at H
      exact absurd H (by simp)
    ·
     rw [if_neg c10] at H
     have c10b0 : decide (0 < (t201.length : Int)) = false := decide_eq_false c10
     have c10b1 : decide (0 < t201.length) = false := decide_eq_false (by omega)
     clear c10
     (first | rw [c10b0] | rw [c10b1] | (simp only [i64_w, i32_w]; first | rw [c10b0] | rw [c10b1]) | skip)
     have H' := Aside0.mk H
     clear H; go_wp2
     go_meet
     case rel => exact ⟨_, ((⟨#[115, 111, 109, 101]⟩ : ByteArray)), (by first | rfl | (simp; done) | (simp [*]; done)), H', ⟨by first | omega | exact Nat.le_refl _⟩, ⟨(rrA HO206.out)⟩, ⟨by repeat (first | (with_reducible first | exact HB.out | apply below_alloc | apply pw_below_drewN | apply below_drew1) | exact HB.out)⟩⟩
   case rest =>
    clear HC6
    try clear c1
    try clear c2
    try clear p2
    try clear q2
    try clear hx2
    try clear qi2
    try clear c3
    try clear c7
    try clear c10
    try clear c10b0
    try clear c10b1
    try clear c11
    try clear c11b0
    try clear c11b1
    try clear c12
    try clear c12b0
    try clear c12b1
    try clear c12b2
    try clear hx207_0
    try clear p207
    try clear q207
    obtain ⟨kq, x5_5, rfl, HA, HJ5, HO_4, HB⟩ := hcut
    cases kq with
    | zero => exact absurd HA.out (by simp [laws_FnTorn.j0])
    | succ kj5 =>
     have H := HA.out
     clear HA
     simp only [laws_FnTorn.j0] at H
     replace H := Option.bind_eq_some_iff.mp H
     obtain ⟨⟨t208, t209⟩, A130, H⟩ := H
     replace H : (if t208.size ≤ 140737488355328 then ((some (bytesOf t208 : List Int)).bind fun y210 => (if 0 < (t204.length : Int) then (if (wrap64 ((y210.length : Int) - 1)) = 0 then (none) else (if 0 ≤ (wrap64 (1 + (Int.tmod (rd t204 0) (wrap64 ((y210.length : Int) - 1))))) then (if (wrap64 (1 + (Int.tmod (rd t204 0) (wrap64 ((y210.length : Int) - 1))))) < (y210.length : Int) then (if 1 < (t204.length : Int) then ((some (y210.set ((wrap64 (1 + (Int.tmod (rd t204 0) (wrap64 ((y210.length : Int) - 1))))) : Int).toNat (Go.bits .xor .u8 (rd y210 (wrap64 (1 + (Int.tmod (rd t204 0) (wrap64 ((y210.length : Int) - 1)))))) ((wrap64 (1 + (Int.tmod (rd t204 1) 255))) % 256)) : List Int)).bind fun y216 => ((impl_FeedReader.f kj5 (⟨#[]⟩ : ByteArray) false (strOfNums y216)).bind fun bt217 => ((impl_FeedReader.f kj5 bt217.1 bt217.2.1 t208).bind fun bt223 => ((spec_FeedReader.f kj5 (⟨#[]⟩ : ByteArray) false (strOfNums y216)).bind fun bt229 => (if t209 = true then (if (bt217.2.1 != bt229.2.1) = true then (some false) else (if bt217.1.toList = bt229.1.toList then (if bt217.2.1 = true then (if (bt217.2.2.length : Int) = 0 then (if (bt223.2.2.length : Int) = 0 then (some bt223.2.1) else (some false)) else (some false)) else (if (bt217.2.2.length : Int) = 1 then (some true) else (some false))) else (some false))) else (some false)))))) else (none)) else (none)) else (none))) else (none))) else (none)) = some r := H
     have A13 := Aside0.mk A130
     clear A130
     by_cases c14 : t208.size ≤ 140737488355328
     ·
      rw [if_pos c14] at H
      have c14b0 := eq_true c14
      have c14b1 : decide (t208.size ≤ 140737488355328) = true := decide_eq_true c14
      clear c14
      obtain ⟨y210, hy210⟩ : ∃ y_ : List Int, y_ = (bytesOf t208) := ⟨_, rfl⟩
      replace H : (if 0 < (t204.length : Int) then (if (wrap64 ((y210.length : Int) - 1)) = 0 then (none) else (if 0 ≤ (wrap64 (1 + (Int.tmod (rd t204 0) (wrap64 ((y210.length : Int) - 1))))) then (if (wrap64 (1 + (Int.tmod (rd t204 0) (wrap64 ((y210.length : Int) - 1))))) < (y210.length : Int) then (if 1 < (t204.length : Int) then ((some (y210.set ((wrap64 (1 + (Int.tmod (rd t204 0) (wrap64 ((y210.length : Int) - 1))))) : Int).toNat (Go.bits .xor .u8 (rd y210 (wrap64 (1 + (Int.tmod (rd t204 0) (wrap64 ((y210.length : Int) - 1)))))) ((wrap64 (1 + (Int.tmod (rd t204 1) 255))) % 256)) : List Int)).bind fun y216 => ((impl_FeedReader.f kj5 (⟨#[]⟩ : ByteArray) false (strOfNums y216)).bind fun bt217 => ((impl_FeedReader.f kj5 bt217.1 bt217.2.1 t208).bind fun bt223 => ((spec_FeedReader.f kj5 (⟨#[]⟩ : ByteArray) false (strOfNums y216)).bind fun bt229 => (if t209 = true then (if (bt217.2.1 != bt229.2.1) = true then (some false) else (if bt217.1.toList = bt229.1.toList then (if bt217.2.1 = true then (if (bt217.2.2.length : Int) = 0 then (if (bt223.2.2.length : Int) = 0 then (some bt223.2.1) else (some false)) else (some false)) else (if (bt217.2.2.length : Int) = 1 then (some true) else (some false))) else (some false))) else (some false)))))) else (none)) else (none)) else (none))) else (none)) = some r := by first | (rw [hy210]; with_reducible exact H) | (have H2_ := (Option.bind_some _ _).symm.trans H; rw [hy210]; with_reducible exact H2_) | (have H2_ := (Option.bind_some _ _).symm.trans H; with_reducible exact H2_) | with_reducible exact H | (rw [hy210]; exact H) | exact H
      have Ny210 := Aside0.mk hy210
      clear hy210
      by_cases c15 : 0 < (t204.length : Int)
      ·
       rw [if_pos c15] at H
       have c15b0 : decide (0 < (t204.length : Int)) = true := decide_eq_true c15
       have c15b1 : decide (0 < t204.length) = true := decide_eq_true (by omega)
       clear c15
       by_cases c16 : (wrap64 ((y210.length : Int) - 1)) = 0
       ·
        rw [if_pos c16] at H
        exact absurd H (by simp)
       ·
        rw [if_neg c16] at H
        have c16b0 : ((wrap64 ((y210.length : Int) - 1)) == 0) = false := beq_eq_false_iff_ne.mpr c16
        have c16b1 : ((wrap64 ((y210.length : Int) - 1)) != 0) = true := bne_iff_ne.mpr c16
        obtain ⟨ji17, hji17⟩ : ∃ j_ : Int, (wrap64 (1 + (Int.tmod (rd t204 0) (wrap64 ((y210.length : Int) - 1))))) = j_ := ⟨_, rfl⟩
        replace H : (if 0 ≤ (ji17) then (if (ji17) < (y210.length : Int) then (if 1 < (t204.length : Int) then ((some (y210.set ((ji17) : Int).toNat (Go.bits .xor .u8 (rd y210 (ji17)) ((wrap64 (1 + (Int.tmod (rd t204 1) 255))) % 256)) : List Int)).bind fun y216 => ((impl_FeedReader.f kj5 (⟨#[]⟩ : ByteArray) false (strOfNums y216)).bind fun bt217 => ((impl_FeedReader.f kj5 bt217.1 bt217.2.1 t208).bind fun bt223 => ((spec_FeedReader.f kj5 (⟨#[]⟩ : ByteArray) false (strOfNums y216)).bind fun bt229 => (if t209 = true then (if (bt217.2.1 != bt229.2.1) = true then (some false) else (if bt217.1.toList = bt229.1.toList then (if bt217.2.1 = true then (if (bt217.2.2.length : Int) = 0 then (if (bt223.2.2.length : Int) = 0 then (some bt223.2.1) else (some false)) else (some false)) else (if (bt217.2.2.length : Int) = 1 then (some true) else (some false))) else (some false))) else (some false)))))) else (none)) else (none)) else (none)) = some r := by first | (rw [hji17] at H; exact H) | (simp only [hji17] at H ⊢; exact H)
        (try rw [hji17] at A13)
        have hji17w : (IntKind.i64.wrap (1 + (Int.tmod (rd t204 0) (wrap64 ((y210.length : Int) - 1))))) = ji17 := (i64_w _).trans hji17
        by_cases c18 : 0 ≤ (ji17)
        ·
         rw [if_pos c18] at H
         have c18b0 : decide (0 ≤ (ji17)) = true := decide_eq_true c18
         clear c18
         by_cases c19 : (ji17) < (y210.length : Int)
         ·
          rw [if_pos c19] at H
          have c19b0 : decide ((ji17) < (y210.length : Int)) = true := decide_eq_true c19
          clear c19
          by_cases c20 : 1 < (t204.length : Int)
          ·
           rw [if_pos c20] at H
           have c20b0 : decide (1 < (t204.length : Int)) = true := decide_eq_true c20
           have c20b1 : decide (1 < t204.length) = true := decide_eq_true (by omega)
           clear c20
           obtain ⟨y216, hy216⟩ : ∃ y_ : List Int, y_ = (y210.set ((ji17) : Int).toNat (Go.bits .xor .u8 (rd y210 (ji17)) ((wrap64 (1 + (Int.tmod (rd t204 1) 255))) % 256))) := ⟨_, rfl⟩
           replace H : ((impl_FeedReader.f kj5 (⟨#[]⟩ : ByteArray) false (strOfNums y216)).bind fun bt217 => ((impl_FeedReader.f kj5 bt217.1 bt217.2.1 t208).bind fun bt223 => ((spec_FeedReader.f kj5 (⟨#[]⟩ : ByteArray) false (strOfNums y216)).bind fun bt229 => (if t209 = true then (if (bt217.2.1 != bt229.2.1) = true then (some false) else (if bt217.1.toList = bt229.1.toList then (if bt217.2.1 = true then (if (bt217.2.2.length : Int) = 0 then (if (bt223.2.2.length : Int) = 0 then (some bt223.2.1) else (some false)) else (some false)) else (if (bt217.2.2.length : Int) = 1 then (some true) else (some false))) else (some false))) else (some false))))) = some r := by first | (rw [hy216]; with_reducible exact H) | (have H2_ := (Option.bind_some _ _).symm.trans H; rw [hy216]; with_reducible exact H2_) | (have H2_ := (Option.bind_some _ _).symm.trans H; with_reducible exact H2_) | with_reducible exact H | (rw [hy216]; exact H) | exact H
           have Ny216 := Aside0.mk hy216
           clear hy216
           replace H := Option.bind_eq_some_iff.mp H
           obtain ⟨⟨t217, t218, t219⟩, A220, H⟩ := H
           replace H : ((impl_FeedReader.f kj5 t217 t218 t208).bind fun bt223 => ((spec_FeedReader.f kj5 (⟨#[]⟩ : ByteArray) false (strOfNums y216)).bind fun bt229 => (if t209 = true then (if (t218 != bt229.2.1) = true then (some false) else (if t217.toList = bt229.1.toList then (if t218 = true then (if (t219.length : Int) = 0 then (if (bt223.2.2.length : Int) = 0 then (some bt223.2.1) else (some false)) else (some false)) else (if (t219.length : Int) = 1 then (some true) else (some false))) else (some false))) else (some false)))) = some r := H
           have A22 := Aside0.mk A220
           clear A220
           replace H := Option.bind_eq_some_iff.mp H
           obtain ⟨⟨t223, t224, t225⟩, A230, H⟩ := H
           replace H : ((spec_FeedReader.f kj5 (⟨#[]⟩ : ByteArray) false (strOfNums y216)).bind fun bt229 => (if t209 = true then (if (t218 != bt229.2.1) = true then (some false) else (if t217.toList = bt229.1.toList then (if t218 = true then (if (t219.length : Int) = 0 then (if (t225.length : Int) = 0 then (some t224) else (some false)) else (some false)) else (if (t219.length : Int) = 1 then (some true) else (some false))) else (some false))) else (some false))) = some r := H
           have A23 := Aside0.mk A230
           clear A230
           replace H := Option.bind_eq_some_iff.mp H
           obtain ⟨⟨t229, t230, t231⟩, A240, H⟩ := H
           replace H : (if t209 = true then (if (t218 != t230) = true then (some false) else (if t217.toList = t229.toList then (if t218 = true then (if (t219.length : Int) = 0 then (if (t225.length : Int) = 0 then (some t224) else (some false)) else (some false)) else (if (t219.length : Int) = 1 then (some true) else (some false))) else (some false))) else (some false)) = some r := H
           have A24 := Aside0.mk A240
           clear A240
           by_cases c25 : t209 = true
           ·
            subst c25
            have H1 : (if (t218 != t230) = true then (some false) else (if t217.toList = t229.toList then (if t218 = true then (if (t219.length : Int) = 0 then (if (t225.length : Int) = 0 then (some t224) else (some false)) else (some false)) else (if (t219.length : Int) = 1 then (some true) else (some false))) else (some false))) = some r := by rw [if_pos rfl] at H; exact H
            clear H; have H := H1; clear H1
            by_cases c26 : (t218 != t230) = true
            ·
             rw [if_pos c26] at H
             have c26b0 : (t218 != t230) = true := c26
             (try (have c26b1 : decide (t218 = t230) = false := by simpa using c26))
             (try (have c26b2 : (t218 == t230) = false := by simpa using c26))
             (try (have c26b3 : ¬ (t218 = t230) := by simpa using c26))
             clear c26
             exact absurd (HT9.out ▸ Option.some.inj H : false = true) (by decide)
            ·
             rw [if_neg c26] at H
             have c26b0 : (t218 != t230) = false := by simpa using c26
             (try (have c26b1 : decide (t218 = t230) = true := by simpa using c26))
             (try (have c26b2 : (t218 == t230) = true := by simpa using c26))
             clear c26
             by_cases c50 : t217.toList = t229.toList
             ·
              rw [if_pos c50] at H
              have c50b0 : (t217.toList == t229.toList) = true := beq_iff_eq.mpr c50
              have c50b1 : (t217.toList != t229.toList) = false := bne_eq_false_iff_eq.mpr c50
              clear c50
              by_cases c51 : t218 = true
              ·
               subst c51
               have H1 : (if (t219.length : Int) = 0 then (if (t225.length : Int) = 0 then (some t224) else (some false)) else (some false)) = some r := by rw [if_pos rfl] at H; exact H
               clear H; have H := H1; clear H1
               by_cases c52 : (t219.length : Int) = 0
               ·
                rw [if_pos c52] at H
                have c52b0 : ((t219.length : Int) == 0) = true := beq_iff_eq.mpr c52
                have c52b1 : ((t219.length : Int) != 0) = false := bne_eq_false_iff_eq.mpr c52
                clear c52
                by_cases c53 : (t225.length : Int) = 0
                ·
                 rw [if_pos c53] at H
                 have c53b0 : ((t225.length : Int) == 0) = true := beq_iff_eq.mpr c53
                 have c53b1 : ((t225.length : Int) != 0) = false := bne_eq_false_iff_eq.mpr c53
                 clear c53
                 obtain rfl := Option.some.inj H
                 try go_wp2_with (first | ((with_reducible refine gate_callee (f := 31) rfl ?_); refine goesL_ (some 32) rfl rfl Try.func31 (by kernel_rfl) rfl #[.string x5_5] rfl (by (try simp only [List.map_toArray, List.map_cons, List.map_nil]); first | done | rfl | (simp only [List.length_drop, List.length_take]; rfl)) ?_; (with_reducible refine (impl_FrameOf.calls kj5 x5_5 t208 true _ A13.out).mono ?_); rintro e w54 ⟨rfl, hb⟩; refine ⟨_, rfl, ?_⟩; have n0_ := Aside0.mk (Kd.R_below (rrA HO_4.out) hb); have n1_ := Aside0.mk (below_step (by repeat (first | (with_reducible first | exact HB.out | apply below_alloc | apply pw_below_drewN | apply below_drew1) | exact HB.out)) hb); clear HO_4; clear HB; have HO_4 := n0_; have HB := n1_; clear n0_ n1_; (try clear hb); (try clear hb2); (try clear hk); (try clear hi)) | ((with_reducible refine gate_dst (N := 36) rfl ?_); (try (refine gate_guard (by rfl) ?_; dsimp only)); refine Kd.R_conv _ 5 rfl (N := 36) rfl 9 27 _ rfl t208 rfl Try.underlying9 Try.underlying27 Try.underlying5 (ok := fun _ => True) trivial (of_decide_eq_true (by first | (with_reducible assumption) | assumption)) (Below.refl _ _) (Nat.le_refl _) ?_; intro v211 w55 ho56 hb hg_ hnew_; clear hg_ hnew_; (first | rw [← Ny210.out] at ho56 | (simp only [Int.reduceToNat] at ho56; rw [← Ny210.out] at ho56)); have n0_ := Aside0.mk (Kd.R_below (rrA HO_4.out) hb); have n1_ := Aside0.mk (Kd.R_lower ho56 (below_size (by repeat (first | (with_reducible first | exact HB.out | apply below_alloc | apply pw_below_drewN | apply below_drew1) | exact HB.out)))); have n2_ := Aside0.mk (below_step (by repeat (first | (with_reducible first | exact HB.out | apply below_alloc | apply pw_below_drewN | apply below_drew1) | exact HB.out)) hb); clear HO_4; clear HB; have HO_4 := n0_; have HO212 := n1_; have HB := n2_; clear n0_ n1_ n2_; clear hb ho56; obtain ⟨Ao57, co57, eo57⟩ := Kd.R_slice HO_4.out; subst eo57; have p213 : 0 ≤ (0 : Int) := (by omega); have q213 : 0 < (t204.length : Int) := of_decide_eq_true (by first | (with_reducible assumption) | assumption); obtain ⟨ad213, e213, hx213_0⟩ := Kd.at_int (Kd.R_reads' HO_4.out).2.2 0 p213 q213; cases e213; have qi213 : (0 < t204.length) = True := eq_true (by omega); (try rw [show ((0 : Int)).toNat = 0 from rfl] at hx213_0); (try rw [Addr.add_zero'] at hx213_0); replace p213 := eq_true p213; replace q213 := eq_true q213; obtain ⟨Ao58, co58, eo58⟩ := Kd.R_slice HO212.out; subst eo58))
                 have n0_ := Aside0.mk (Kd.R_drew HO_4.out)
                 have n1_ := Aside0.mk (Kd.R_drew HO212.out)
                 have n2_ := Aside0.mk (below_drew1 HB.out)
                 clear HO_4; clear HO212; clear HB
                 have HO_4 := n0_
                 have HO212 := n1_
                 have HB := n2_
                 clear n0_ n1_ n2_
                 have p214 : 0 ≤ ((ji17) : Int) := of_decide_eq_true (by first | (with_reducible assumption) | assumption)
                 have q214 : (ji17) < (y210.length : Int) := of_decide_eq_true (by first | (with_reducible assumption) | assumption)
                 obtain ⟨ad214, e214, hx214_0⟩ := Kd.at_int (Kd.R_reads' HO212.out).2.2 (ji17) p214 q214
                 cases e214
                 replace p214 := eq_true p214
                 replace q214 := eq_true q214
                 have p215 : 0 ≤ (1 : Int) := (by omega)
                 have q215 : 1 < (t204.length : Int) := of_decide_eq_true (by first | (with_reducible assumption) | assumption)
                 obtain ⟨ad215, e215, hx215_0⟩ := Kd.at_int (Kd.R_reads' HO_4.out).2.2 1 p215 q215
                 obtain rfl : ad213 = ad215 := (by injection e215)
                 (try simp only [show (1 : Int).toNat = 1 from rfl, Nat.reduceMul, Nat.reduceEqDiff, Go.Addr.add, ↓reduceIte] at hx215_0)
                 have qi215 : (1 < t204.length) = True := eq_true (by omega)
                 (try rw [show ((1 : Int)).toNat = 1 from rfl] at hx215_0)
                 replace p215 := eq_true p215
                 replace q215 := eq_true q215
                 have p21 : 0 ≤ ((ji17) : Int) := of_decide_eq_true (by first | (with_reducible assumption) | assumption)
                 have q21 : ((ji17) : Int) < ((y210.length : Int) : Int) := of_decide_eq_true (by first | (with_reducible assumption) | assumption)
                 obtain ⟨go21, co21, eo21, gb21, gl21, cl21, fz_HG21, HG21⟩ := Kd.R_form HO212.out (by omega)
                 (first | cases eo21 | (injection eo21 with ea_ en_ ec_; (first | subst ea_ | (injection ea_ with ea_; subst ea_)); subst ec_; clear en_))
                 have GB21 := Aside0.mk gb21
                 have GG21 := Aside0.mk HG21
                 clear gb21 gl21 HG21
                 (first | simp only [add_plain] at hx214_0 | skip)
                 obtain ⟨hx21_0, hf21_0⟩ := Kd.R_celln 0 HO212.out ((ji17) : Int) p21 q21
                 replace p21 := eq_true p21
                 replace q21 := eq_true q21
                 have HP60 := Kd.R_putn HO212.out ((ji17) : Int) (Go.bits .xor .u8 (rd y210 (ji17)) ((wrap64 (1 + (Int.tmod (rd t204 1) 255))) % 256))
                 rw [← Ny216.out] at HP60
                 have HQ60 := Aside0.mk HP60
                 clear HP60
                 refine start_ (n := 15) (S := fun w' => w'.cell? ⟨go21, ((ji17)).toNat, none⟩ = some (.int .u8 (rd y210 (ji17))) ∧ w'.cell? ⟨ad213.block, ad213.off + 1, none⟩ = some (.int .i64 (rd t204 1))) (ds := [14]) #[false, false, false, false, false, false, false, false, false, false, false, false, false, false, false] (by kernel_rfl) rfl rfl ⟨hx214_0, hx215_0⟩ (fun hHeld => ?_); refine with_tabW laws_FnTorn.tab11 laws_FnTorn.bits11 (fun HT_ HW_ => ?_)
                 generalize w55.drew = w59 at HO_4 HO212 HB GG21 HQ60 hf21_0 hx214_0 hx215_0 hx21_0 hHeld ⊢
                 refine pure_ (i := 0) (N := some 45) (v := ?_) (a' := ?_) #[true, false, false, false, false, false, false, false, false, false, false, false, false, false, false] rfl rfl (any_of HT_.out (by kernel_rfl)) (fun _ _ _ h => h) (Or.inl ⟨by rfl, ?_⟩) ?_ ?_; rotate_left
                 · intro w'; go_simp; with_reducible rfl
                 rotate_left
                 · simp only [Act.put, List.setIfInBounds_toArray, List.set_cons_zero, List.set_cons_succ, i64_w, i32_w]; rfl
                 refine pure_ (i := 1) (N := some 46) (v := ?_) (a' := ?_) #[true, true, false, false, false, false, false, false, false, false, false, false, false, false, false] rfl rfl (any_of HT_.out (by kernel_rfl)) (fun _ _ _ h => h) (Or.inl ⟨by rfl, ?_⟩) ?_ ?_; rotate_left
                 · intro w'; go_simp; with_reducible rfl
                 rotate_left
                 · simp only [Act.put, List.setIfInBounds_toArray, List.set_cons_zero, List.set_cons_succ, i64_w, i32_w]; rfl
                 refine pure_ (i := 2) (N := some 47) (v := ?_) (a' := ?_) #[true, true, true, false, false, false, false, false, false, false, false, false, false, false, false] rfl rfl (any_of HT_.out (by kernel_rfl)) (fun _ _ _ h => h) (Or.inl ⟨by rfl, ?_⟩) ?_ ?_; rotate_left
                 · intro w'; go_simp; with_reducible rfl
                 rotate_left
                 · simp only [Act.put, List.setIfInBounds_toArray, List.set_cons_zero, List.set_cons_succ, i64_w, i32_w]; rfl
                 refine pure_ (i := 3) (N := some 48) (v := ?_) (a' := ?_) #[true, true, true, true, false, false, false, false, false, false, false, false, false, false, false] rfl rfl (any_of HT_.out (by kernel_rfl)) (fun _ _ _ h => h) (Or.inl ⟨by rfl, ?_⟩) ?_ ?_; rotate_left
                 · intro w'; go_simp; with_reducible rfl
                 rotate_left
                 · simp only [Act.put, List.setIfInBounds_toArray, List.set_cons_zero, List.set_cons_succ, i64_w, i32_w]; rfl
                 refine pure_ (i := 4) (N := some 49) (v := ?_) (a' := ?_) #[true, true, true, true, true, false, false, false, false, false, false, false, false, false, false] rfl rfl (any_of HT_.out (by kernel_rfl)) (fun _ _ _ h => h) (Or.inl ⟨by rfl, ?_⟩) ?_ ?_; rotate_left
                 · intro w'; go_simp; with_reducible rfl
                 rotate_left
                 · simp only [Act.put, List.setIfInBounds_toArray, List.set_cons_zero, List.set_cons_succ, i64_w, i32_w]; rfl
                 refine pure_ (i := 6) (N := some 51) (v := ?_) (a' := ?_) #[true, true, true, true, true, false, true, false, false, false, false, false, false, false, false] rfl rfl (any_of HT_.out (by kernel_rfl)) (fun _ _ _ h => h) (Or.inl ⟨by rfl, ?_⟩) ?_ ?_; rotate_left
                 · intro w'; go_simp; with_reducible rfl
                 rotate_left
                 · simp only [Act.put, List.setIfInBounds_toArray, List.set_cons_zero, List.set_cons_succ, i64_w, i32_w]; rfl
                 refine pure_ (i := 7) (N := some 52) (v := ?_) (a' := ?_) #[true, true, true, true, true, false, true, true, false, false, false, false, false, false, false] rfl rfl (any_of HT_.out (by kernel_rfl)) (fun _ _ _ h => h) (Or.inl ⟨by rfl, ?_⟩) ?_ ?_; rotate_left
                 · intro w'; go_simp; with_reducible rfl
                 rotate_left
                 · simp only [Act.put, List.setIfInBounds_toArray, List.set_cons_zero, List.set_cons_succ, i64_w, i32_w]; rfl
                 refine take_ (i := 5) (N := some 50) (v := ?_) (a' := ?_) #[true, true, true, true, true, true, true, true, false, false, false, false, false, false, false] rfl rfl (take_ofW HT_.out HW_.out (by kernel_rfl)) (fun _ _ _ h => h) (Or.inl ⟨by rfl, ?_⟩) hHeld ?_ ?_; rotate_left
                 ·
                  rintro w' ⟨s0, s1⟩
                  go_simp; with_reducible rfl
                 rotate_left
                 · simp only [Act.put, List.setIfInBounds_toArray, List.set_cons_zero, List.set_cons_succ, i64_w, i32_w]; rfl
                 refine take_ (i := 8) (N := some 53) (v := ?_) (a' := ?_) #[true, true, true, true, true, true, true, true, true, false, false, false, false, false, false] rfl rfl (take_ofW HT_.out HW_.out (by kernel_rfl)) (fun _ _ _ h => h) (Or.inl ⟨by rfl, ?_⟩) hHeld ?_ ?_; rotate_left
                 ·
                  rintro w' ⟨s0, s1⟩
                  go_simp; with_reducible rfl
                 rotate_left
                 · simp only [Act.put, List.setIfInBounds_toArray, List.set_cons_zero, List.set_cons_succ, i64_w, i32_w]; rfl
                 refine pure_ (i := 9) (N := some 54) (v := ?_) (a' := ?_) #[true, true, true, true, true, true, true, true, true, true, false, false, false, false, false] rfl rfl (any_of HT_.out (by kernel_rfl)) (fun _ _ _ h => h) (Or.inl ⟨by rfl, ?_⟩) ?_ ?_; rotate_left
                 · intro w'; go_simp; with_reducible rfl
                 rotate_left
                 · simp only [Act.put, List.setIfInBounds_toArray, List.set_cons_zero, List.set_cons_succ, i64_w, i32_w]; rfl
                 refine pure_ (i := 10) (N := some 55) (v := ?_) (a' := ?_) #[true, true, true, true, true, true, true, true, true, true, true, false, false, false, false] rfl rfl (any_of HT_.out (by kernel_rfl)) (fun _ _ _ h => h) (Or.inl ⟨by rfl, ?_⟩) ?_ ?_; rotate_left
                 · intro w'; go_simp; with_reducible rfl
                 rotate_left
                 · simp only [Act.put, List.setIfInBounds_toArray, List.set_cons_zero, List.set_cons_succ, i64_w, i32_w]; rfl
                 refine pure_ (i := 11) (N := some 56) (v := ?_) (a' := ?_) #[true, true, true, true, true, true, true, true, true, true, true, true, false, false, false] rfl rfl (any_of HT_.out (by kernel_rfl)) (fun _ _ _ h => h) (Or.inl ⟨by rfl, ?_⟩) ?_ ?_; rotate_left
                 · intro w'; go_simp; with_reducible rfl
                 rotate_left
                 · simp only [Act.put, List.setIfInBounds_toArray, List.set_cons_zero, List.set_cons_succ, i64_w, i32_w]; rfl
                 refine pure_ (i := 12) (N := some 57) (v := ?_) (a' := ?_) #[true, true, true, true, true, true, true, true, true, true, true, true, true, false, false] rfl rfl (any_of HT_.out (by kernel_rfl)) (fun _ _ _ h => h) (Or.inl ⟨by rfl, ?_⟩) ?_ ?_; rotate_left
                 · intro w'; go_simp; with_reducible rfl
                 rotate_left
                 · simp only [Act.put, List.setIfInBounds_toArray, List.set_cons_zero, List.set_cons_succ, i64_w, i32_w]; rfl
                 refine pure_ (i := 13) (N := some 58) (v := ?_) (a' := ?_) #[true, true, true, true, true, true, true, true, true, true, true, true, true, true, false] rfl rfl (any_of HT_.out (by kernel_rfl)) (fun _ _ _ h => h) (Or.inl ⟨by rfl, ?_⟩) ?_ ?_; rotate_left
                 · intro w'; go_simp; with_reducible rfl
                 rotate_left
                 · simp only [Act.put, List.setIfInBounds_toArray, List.set_cons_zero, List.set_cons_succ, i64_w, i32_w]; rfl
                 refine last_ (i := 14) (N := none) #[true, true, true, true, true, true, true, true, true, true, true, true, true, true, true] rfl rfl (one_of HT_.out (by kernel_rfl)) (by decide) (fun K hK => ?_)
                 refine skip_ (w1 := ?_) (by rfl) rfl ?_ ?_
                 rotate_left
                 · go_simp; rfl
                 refine hK.out _ _ ?_
                 clear hK K
                 refine done_ (done_of HT_.out (by kernel_rfl)) ?_
                 have n0_ : Aside0 (Kd.R (Kd.int .i64) 3 (w59.setCell ⟨go21, ((ji17) : Int).toNat, none⟩ (.int .u8 (Go.bits .xor .u8 (rd y210 (ji17)) ((wrap64 (1 + (Int.tmod (rd t204 1) 255))) % 256)))) w.heap.size (fun _ => True) (.slice (some ad213) t204.length co57) t204) := ⟨Kd.R_mono (Kd.R_far (p := ⟨go21, ((ji17) : Int).toNat, none⟩) (Kd.R_types HO_4.out GG21.out (by decide)) (fun _ hk => hk.2) (.int .u8 (Go.bits .xor .u8 (rd y210 (ji17)) ((wrap64 (1 + (Int.tmod (rd t204 1) 255))) % 256)))) (fun _ hk => trivial)⟩
                 have n1_ : Aside0 (Kd.R (Kd.int .u8) 5 (w59.setCell ⟨go21, ((ji17) : Int).toNat, none⟩ (.int .u8 (Go.bits .xor .u8 (rd y210 (ji17)) ((wrap64 (1 + (Int.tmod (rd t204 1) 255))) % 256)))) w.heap.size (fun _ => True) (.slice (some ⟨go21, 0, none⟩) y210.length co58) y216) := ⟨(rrA HQ60.out)⟩
                 have n2_ : Aside0 (Below w.heap.size w (w59.setCell ⟨go21, ((ji17) : Int).toNat, none⟩ (.int .u8 (Go.bits .xor .u8 (rd y210 (ji17)) ((wrap64 (1 + (Int.tmod (rd t204 1) 255))) % 256))))) := ⟨by repeat (first | (with_reducible first | exact HB.out | apply below_alloc | apply pw_below_drewN | apply below_drew1 | refine below_set ?_ GB21.out) | exact HB.out)⟩
                 (try clear HO_4)
                 (try clear HO212)
                 (try clear HB)
                 skip
                 have HO_4 := n0_
                 have HO212 := n1_
                 have HB := n2_
                 clear n0_ n1_ n2_
                 have hcv62 := own_string (P := Try.prog) Try.underlying27 Try.underlying5 Try.underlying9 (Kd.own_of_R HO212.out)
                 try go_wp2_with (first | ((with_reducible refine gate_callee (f := 32) rfl ?_); refine goesL_ (some 63) rfl rfl Try.func32 (by kernel_rfl) rfl #[.agg #[.string (⟨#[]⟩ : ByteArray), .bool false], .string (strOfNums y216)] rfl (by (try simp only [List.map_toArray, List.map_cons, List.map_nil]); first | done | rfl | (simp only [List.length_drop, List.length_take]; rfl)) ?_; (with_reducible refine (impl_FeedReader.calls kj5 (⟨#[]⟩ : ByteArray) false (strOfNums y216) t217 true t219 _ A22.out).mono ?_); rintro e w63 ⟨v220, rfl, ho0, hb⟩; refine ⟨_, rfl, ?_⟩; have n0_ := Aside0.mk (Kd.R_below (rrA HO_4.out) hb); have n1_ := Aside0.mk (Kd.R_below (rrA HO212.out) hb); have n2_ := Aside0.mk (Kd.R_lower ho0 (below_size (by repeat (first | (with_reducible first | exact HB.out | apply below_alloc | apply pw_below_drewN | apply below_drew1) | exact HB.out)))); have n3_ := Aside0.mk (below_step (by repeat (first | (with_reducible first | exact HB.out | apply below_alloc | apply pw_below_drewN | apply below_drew1) | exact HB.out)) hb); clear HO_4; clear HO212; clear HB; have HO_4 := n0_; have HO212 := n1_; have HO221 := n2_; have HB := n3_; clear n0_ n1_ n2_ n3_; (try clear hb); (try clear hb2); (try clear hk); (try clear hi); (try clear ho0)) | ((with_reducible refine gate_dst (N := 10) rfl ?_); (try (refine gate_guard (by rfl) ?_; dsimp only)); refine box_event ?hg (N := 10) ?hd (cs := #[.string (⟨#[]⟩ : ByteArray), .bool false]) (t := 48) ?hr ?_; (case hd => rfl); (case hg => rfl); (case hr => first | (go_simp; done) | (go_simp; rfl)); intro gb222 hg w64 hbox hb; have n0_ := Aside0.mk (Kd.R_below (rrA HO_4.out) hb); have n1_ := Aside0.mk (Kd.R_below (rrA HO212.out) hb); have n2_ := Aside0.mk (Kd.R_below (rrA HO221.out) hb); have n3_ := Aside0.mk (below_step (by repeat (first | (with_reducible first | exact HB.out | apply below_alloc | apply pw_below_drewN | apply below_drew1) | exact HB.out)) hb); have n4_ := Aside0.mk (hbox); have n5_ := Aside0.mk ((by rw [hg]; exact (below_size (by repeat (first | (with_reducible first | exact HB.out | apply below_alloc | apply pw_below_drewN | apply below_drew1) | exact HB.out))) : w.heap.size ≤ gb222)); have n6_ := Aside0.mk ((by rw [hg]; exact (below_size (by repeat (first | (with_reducible first | exact HB.out | apply below_alloc | apply pw_below_drewN | apply below_drew1) | exact HB.out))) : w.heap.size ≤ gb222)); clear HO_4; clear HO212; clear HO221; clear HB; have HO_4 := n0_; have HO212 := n1_; have HO221 := n2_; have HB := n3_; have BK222 := n4_; have GW222 := n5_; have GE222 := n6_; clear n0_ n1_ n2_ n3_ n4_ n5_ n6_; clear hb hbox hg; have hcz65_0 : w64.cell? ⟨gb222, 0, none⟩ = some (.string (⟨#[]⟩ : ByteArray)) := (blk_cell BK222.out 0).trans rfl; have hcz65_1 : w64.cell? ⟨gb222, 1, none⟩ = some (.bool false) := (blk_cell BK222.out 1).trans rfl; have hfz65_0 := blk_frozen BK222.out 0; have hfz65_1 := blk_frozen BK222.out 1) | ((with_reducible refine gate_callee (f := 32) rfl ?_); refine goesL_ (some 69) rfl rfl Try.func32 (by kernel_rfl) rfl #[.agg #[.string t217, .bool true], .string t208] rfl (by (try simp only [List.map_toArray, List.map_cons, List.map_nil]); first | done | rfl | (simp only [List.length_drop, List.length_take]; rfl)) ?_; (with_reducible refine (impl_FeedReader.calls kj5 t217 true t208 t223 t224 t225 _ A23.out).mono ?_); rintro e w66 ⟨v226, rfl, ho0, hb⟩; refine ⟨_, rfl, ?_⟩; have n0_ := Aside0.mk (Kd.R_below (rrA (Kd.R_mono (Kd.R_far (p := ⟨gb222, 1, none⟩) (Kd.R_far (p := ⟨gb222, 0, none⟩) (Kd.R_types HO_4.out BK222.out (by decide)) (fun _ hk => hk.2) (.string t217)) (fun _ hk => hk.2) (.bool true)) (fun _ h_ => h_.1))) hb); have n1_ := Aside0.mk (Kd.R_below (rrA (Kd.R_mono (Kd.R_far (p := ⟨gb222, 1, none⟩) (Kd.R_far (p := ⟨gb222, 0, none⟩) (Kd.R_types HO212.out BK222.out (by decide)) (fun _ hk => hk.2) (.string t217)) (fun _ hk => hk.2) (.bool true)) (fun _ h_ => h_.1))) hb); have n2_ := Aside0.mk (Kd.R_elder' (rrA (Kd.R_mono (Kd.R_far (p := ⟨gb222, 1, none⟩) (Kd.R_far (p := ⟨gb222, 0, none⟩) (Kd.R_types HO221.out BK222.out (by decide)) (fun _ hk => hk.2) (.string t217)) (fun _ hk => hk.2) (.bool true)) (fun _ h_ => h_.1))) (Kd.R_base ho0) hb); have n3_ := Aside0.mk (Kd.R_lower (Kd.R_new' ho0 (Kd.R_lt (rrA (Kd.R_mono (Kd.R_far (p := ⟨gb222, 1, none⟩) (Kd.R_far (p := ⟨gb222, 0, none⟩) (Kd.R_types HO221.out BK222.out (by decide)) (fun _ hk => hk.2) (.string t217)) (fun _ hk => hk.2) (.bool true)) (fun _ h_ => h_.1))))) (below_size (by repeat (first | (with_reducible first | exact HB.out | apply below_alloc | apply pw_below_drewN | apply below_drew1 | refine below_set ?_ GE222.out) | exact HB.out)))); have n4_ := Aside0.mk (blk_below (g := gb222) (o := .cells #[.string t217, .bool true] 48 (0, 0)) (by (with_reducible repeat (first | refine blk_drewN ?_ _ | refine blk_drew ?_ | refine blk_alloc ?_ _)); refine blk_put (cs := #[.string t217, .bool false]) ?_ 1 _ rfl; (with_reducible repeat (first | refine blk_drewN ?_ _ | refine blk_drew ?_ | refine blk_alloc ?_ _)); refine blk_put (cs := #[.string (⟨#[]⟩ : ByteArray), .bool false]) ?_ 0 _ rfl; (with_reducible repeat (first | refine blk_drewN ?_ _ | refine blk_drew ?_ | refine blk_alloc ?_ _)); exact BK222.out) hb); have n5_ := Aside0.mk (below_step (by repeat (first | (with_reducible first | exact HB.out | apply below_alloc | apply pw_below_drewN | apply below_drew1 | refine below_set ?_ GE222.out) | exact HB.out)) hb); clear HO_4; clear HO212; clear HO221; clear BK222; clear HB; have HO_4 := n0_; have HO212 := n1_; have HO221 := n2_; have HO227 := n3_; have BK222 := n4_; have HB := n5_; clear n0_ n1_ n2_ n3_ n4_ n5_; (try clear hb); (try clear hb2); (try clear hk); (try clear hi); (try clear ho0)) | ((with_reducible refine gate_dst (N := 12) rfl ?_); (try (refine gate_guard (by rfl) ?_; dsimp only)); refine box_event ?hg (N := 12) ?hd (cs := #[.string (⟨#[]⟩ : ByteArray), .bool false]) (t := 48) ?hr ?_; (case hd => rfl); (case hg => rfl); (case hr => first | (go_simp; done) | (go_simp; rfl)); intro gb228 hg w67 hbox hb; have n0_ := Aside0.mk (Kd.R_below (rrA HO_4.out) hb); have n1_ := Aside0.mk (Kd.R_below (rrA HO212.out) hb); have n2_ := Aside0.mk (Kd.R_below (rrA HO221.out) hb); have n3_ := Aside0.mk (Kd.R_below (rrA HO227.out) hb); have n4_ := Aside0.mk (blk_below (g := gb222) (o := .cells #[.string t217, .bool true] 48 (0, 0)) (rrB BK222.out) hb); have n5_ := Aside0.mk (below_step (by repeat (first | (with_reducible first | exact HB.out | apply below_alloc | apply pw_below_drewN | apply below_drew1 | refine below_set ?_ GE222.out) | exact HB.out)) hb); have n6_ := Aside0.mk (hbox); have n7_ := Aside0.mk ((by rw [hg]; exact (below_size (by repeat (first | (with_reducible first | exact HB.out | apply below_alloc | apply pw_below_drewN | apply below_drew1 | refine below_set ?_ GE222.out) | exact HB.out))) : w.heap.size ≤ gb228)); have n8_ := Aside0.mk ((by rw [hg]; exact (below_size (by repeat (first | (with_reducible first | exact HB.out | apply below_alloc | apply pw_below_drewN | apply below_drew1 | refine below_set ?_ GE222.out) | exact HB.out))) : w.heap.size ≤ gb228)); have n9_ := Aside0.mk ((by rw [hg]; exact Nat.ne_of_lt (blk_lt (g := gb222) (o := .cells #[.string t217, .bool true] 48 (0, 0)) (rrB BK222.out)) : gb222 ≠ gb228)); have n10_ := Aside0.mk ((by rw [hg]; exact Nat.ne_of_gt (blk_lt (g := gb222) (o := .cells #[.string t217, .bool true] 48 (0, 0)) (rrB BK222.out)) : gb228 ≠ gb222)); clear HO_4; clear HO212; clear HO221; clear HO227; clear BK222; clear HB; have HO_4 := n0_; have HO212 := n1_; have HO221 := n2_; have HO227 := n3_; have BK222 := n4_; have HB := n5_; have BK228 := n6_; have GW228 := n7_; have GE228 := n8_; have NB222_228 := n9_; have NB228_222 := n10_; clear n0_ n1_ n2_ n3_ n4_ n5_ n6_ n7_ n8_ n9_ n10_; clear hb hbox hg; have hnb68 := NB228_222.out; have hnc68 := NB222_228.out; have hcz69_0 : w67.cell? ⟨gb228, 0, none⟩ = some (.string (⟨#[]⟩ : ByteArray)) := (blk_cell BK228.out 0).trans rfl; have hcz69_1 : w67.cell? ⟨gb228, 1, none⟩ = some (.bool false) := (blk_cell BK228.out 1).trans rfl; have hfz69_0 := blk_frozen BK228.out 0; have hfz69_1 := blk_frozen BK228.out 1; have hcv70 := own_string (P := Try.prog) Try.underlying27 Try.underlying5 Try.underlying9 (Kd.own_of_R (Kd.R_far (p := ⟨gb228, 1, none⟩) (Kd.R_far (p := ⟨gb228, 0, none⟩) (Kd.R_types HO212.out BK228.out (by decide)) (fun _ hk => hk.2) (.string t223)) (fun _ hk => hk.2) (.bool t224)))) | ((with_reducible refine gate_callee (f := 33) rfl ?_); refine goesL_ (some 76) rfl rfl Try.func33 (by kernel_rfl) rfl #[.agg #[.string (⟨#[]⟩ : ByteArray), .bool false], .string (strOfNums y216)] rfl (by (try simp only [List.map_toArray, List.map_cons, List.map_nil]); first | done | rfl | (simp only [List.length_drop, List.length_take]; rfl)) ?_; (with_reducible refine (spec_FeedReader.calls kj5 (⟨#[]⟩ : ByteArray) false (strOfNums y216) t229 t230 t231 _ A24.out).mono ?_); rintro e w71 ⟨v232, rfl, ho0, hb⟩; refine ⟨_, rfl, ?_⟩; have n0_ := Aside0.mk (Kd.R_below (rrA (Kd.R_mono (Kd.R_far (p := ⟨gb228, 1, none⟩) (Kd.R_far (p := ⟨gb228, 0, none⟩) (Kd.R_types HO_4.out BK228.out (by decide)) (fun _ hk => hk.2) (.string t223)) (fun _ hk => hk.2) (.bool t224)) (fun _ h_ => h_.1))) hb); have n1_ := Aside0.mk (Kd.R_below (rrA (Kd.R_mono (Kd.R_far (p := ⟨gb228, 1, none⟩) (Kd.R_far (p := ⟨gb228, 0, none⟩) (Kd.R_types HO212.out BK228.out (by decide)) (fun _ hk => hk.2) (.string t223)) (fun _ hk => hk.2) (.bool t224)) (fun _ h_ => h_.1))) hb); have n2_ := Aside0.mk (Kd.R_elder' (rrA (Kd.R_mono (Kd.R_far (p := ⟨gb228, 1, none⟩) (Kd.R_far (p := ⟨gb228, 0, none⟩) (Kd.R_types HO221.out BK228.out (by decide)) (fun _ hk => hk.2) (.string t223)) (fun _ hk => hk.2) (.bool t224)) (fun _ h_ => h_.1))) (Kd.R_base ho0) hb); have n3_ := Aside0.mk (Kd.R_elder' (rrA (Kd.R_mono (Kd.R_far (p := ⟨gb228, 1, none⟩) (Kd.R_far (p := ⟨gb228, 0, none⟩) (Kd.R_types HO227.out BK228.out (by decide)) (fun _ hk => hk.2) (.string t223)) (fun _ hk => hk.2) (.bool t224)) (fun _ h_ => h_.1))) (Kd.R_base ho0) hb); have n4_ := Aside0.mk (Kd.R_lower (Kd.R_new' (Kd.R_new' ho0 (Kd.R_lt (rrA (Kd.R_mono (Kd.R_far (p := ⟨gb228, 1, none⟩) (Kd.R_far (p := ⟨gb228, 0, none⟩) (Kd.R_types HO221.out BK228.out (by decide)) (fun _ hk => hk.2) (.string t223)) (fun _ hk => hk.2) (.bool t224)) (fun _ h_ => h_.1))))) (Kd.R_lt (rrA (Kd.R_mono (Kd.R_far (p := ⟨gb228, 1, none⟩) (Kd.R_far (p := ⟨gb228, 0, none⟩) (Kd.R_types HO227.out BK228.out (by decide)) (fun _ hk => hk.2) (.string t223)) (fun _ hk => hk.2) (.bool t224)) (fun _ h_ => h_.1))))) (below_size (by repeat (first | (with_reducible first | exact HB.out | apply below_alloc | apply pw_below_drewN | apply below_drew1 | refine below_set ?_ GE222.out | refine below_set ?_ GE228.out) | exact HB.out)))); have n5_ := Aside0.mk (blk_below (g := gb222) (o := .cells #[.string t217, .bool true] 48 (0, 0)) (by (with_reducible repeat (first | refine blk_drewN ?_ _ | refine blk_drew ?_ | refine blk_alloc ?_ _)); refine blk_far ?_ NB222_228.out _; (with_reducible repeat (first | refine blk_drewN ?_ _ | refine blk_drew ?_ | refine blk_alloc ?_ _)); refine blk_far ?_ NB222_228.out _; (with_reducible repeat (first | refine blk_drewN ?_ _ | refine blk_drew ?_ | refine blk_alloc ?_ _)); exact BK222.out) hb); have n6_ := Aside0.mk (blk_below (g := gb228) (o := .cells #[.string t223, .bool t224] 48 (0, 0)) (by (with_reducible repeat (first | refine blk_drewN ?_ _ | refine blk_drew ?_ | refine blk_alloc ?_ _)); refine blk_put (cs := #[.string t223, .bool false]) ?_ 1 _ rfl; (with_reducible repeat (first | refine blk_drewN ?_ _ | refine blk_drew ?_ | refine blk_alloc ?_ _)); refine blk_put (cs := #[.string (⟨#[]⟩ : ByteArray), .bool false]) ?_ 0 _ rfl; (with_reducible repeat (first | refine blk_drewN ?_ _ | refine blk_drew ?_ | refine blk_alloc ?_ _)); exact BK228.out) hb); have n7_ := Aside0.mk (below_step (by repeat (first | (with_reducible first | exact HB.out | apply below_alloc | apply pw_below_drewN | apply below_drew1 | refine below_set ?_ GE222.out | refine below_set ?_ GE228.out) | exact HB.out)) hb); clear HO_4; clear HO212; clear HO221; clear HO227; clear BK222; clear BK228; clear HB; have HO_4 := n0_; have HO212 := n1_; have HO221 := n2_; have HO227 := n3_; have HO233 := n4_; have BK222 := n5_; have BK228 := n6_; have HB := n7_; clear n0_ n1_ n2_ n3_ n4_ n5_ n6_ n7_; (try clear hb); (try clear hb2); (try clear hk); (try clear hi); (try clear ho0)) | ((with_reducible refine gate_dst (N := 14) rfl ?_); (try (refine gate_guard (by rfl) ?_; dsimp only)); refine box_event ?hg (N := 14) ?hd (cs := #[.string (⟨#[]⟩ : ByteArray), .bool false]) (t := 48) ?hr ?_; (case hd => rfl); (case hg => rfl); (case hr => first | (go_simp; done) | (go_simp; rfl)); intro gb234 hg w72 hbox hb; have n0_ := Aside0.mk (Kd.R_below (rrA HO_4.out) hb); have n1_ := Aside0.mk (Kd.R_below (rrA HO212.out) hb); have n2_ := Aside0.mk (Kd.R_below (rrA HO221.out) hb); have n3_ := Aside0.mk (Kd.R_below (rrA HO227.out) hb); have n4_ := Aside0.mk (Kd.R_below (rrA HO233.out) hb); have n5_ := Aside0.mk (blk_below (g := gb222) (o := .cells #[.string t217, .bool true] 48 (0, 0)) (rrB BK222.out) hb); have n6_ := Aside0.mk (blk_below (g := gb228) (o := .cells #[.string t223, .bool t224] 48 (0, 0)) (rrB BK228.out) hb); have n7_ := Aside0.mk (below_step (by repeat (first | (with_reducible first | exact HB.out | apply below_alloc | apply pw_below_drewN | apply below_drew1 | refine below_set ?_ GE222.out | refine below_set ?_ GE228.out) | exact HB.out)) hb); have n8_ := Aside0.mk (hbox); have n9_ := Aside0.mk ((by rw [hg]; exact (below_size (by repeat (first | (with_reducible first | exact HB.out | apply below_alloc | apply pw_below_drewN | apply below_drew1 | refine below_set ?_ GE222.out | refine below_set ?_ GE228.out) | exact HB.out))) : w.heap.size ≤ gb234)); have n10_ := Aside0.mk ((by rw [hg]; exact (below_size (by repeat (first | (with_reducible first | exact HB.out | apply below_alloc | apply pw_below_drewN | apply below_drew1 | refine below_set ?_ GE222.out | refine below_set ?_ GE228.out) | exact HB.out))) : w.heap.size ≤ gb234)); have n11_ := Aside0.mk ((by rw [hg]; exact Nat.ne_of_lt (blk_lt (g := gb222) (o := .cells #[.string t217, .bool true] 48 (0, 0)) (rrB BK222.out)) : gb222 ≠ gb234)); have n12_ := Aside0.mk ((by rw [hg]; exact Nat.ne_of_gt (blk_lt (g := gb222) (o := .cells #[.string t217, .bool true] 48 (0, 0)) (rrB BK222.out)) : gb234 ≠ gb222)); have n13_ := Aside0.mk ((by rw [hg]; exact Nat.ne_of_lt (blk_lt (g := gb228) (o := .cells #[.string t223, .bool t224] 48 (0, 0)) (rrB BK228.out)) : gb228 ≠ gb234)); have n14_ := Aside0.mk ((by rw [hg]; exact Nat.ne_of_gt (blk_lt (g := gb228) (o := .cells #[.string t223, .bool t224] 48 (0, 0)) (rrB BK228.out)) : gb234 ≠ gb228)); clear HO_4; clear HO212; clear HO221; clear HO227; clear HO233; clear BK222; clear BK228; clear HB; have HO_4 := n0_; have HO212 := n1_; have HO221 := n2_; have HO227 := n3_; have HO233 := n4_; have BK222 := n5_; have BK228 := n6_; have HB := n7_; have BK234 := n8_; have GW234 := n9_; have GE234 := n10_; have NB222_234 := n11_; have NB234_222 := n12_; have NB228_234 := n13_; have NB234_228 := n14_; clear n0_ n1_ n2_ n3_ n4_ n5_ n6_ n7_ n8_ n9_ n10_ n11_ n12_ n13_ n14_; clear hb hbox hg; have hnb73 := NB234_222.out; have hnc73 := NB222_234.out; have hnb74 := NB234_228.out; have hnc74 := NB228_234.out; have hcz75_0 : w72.cell? ⟨gb234, 0, none⟩ = some (.string (⟨#[]⟩ : ByteArray)) := (blk_cell BK234.out 0).trans rfl; have hcz75_1 : w72.cell? ⟨gb234, 1, none⟩ = some (.bool false) := (blk_cell BK234.out 1).trans rfl; have hfz75_0 := blk_frozen BK234.out 0; have hfz75_1 := blk_frozen BK234.out 1; have hcz76_0 : w72.cell? ⟨gb222, 0, none⟩ = some (.string t217) := (blk_cell BK222.out 0).trans rfl; have hcz76_1 : w72.cell? ⟨gb222, 1, none⟩ = some (.bool true) := (blk_cell BK222.out 1).trans rfl; have hfz76_0 := blk_frozen BK222.out 0; have hfz76_1 := blk_frozen BK222.out 1; obtain ⟨Ao77, co77, eo77⟩ := Kd.R_slice HO221.out; subst eo77; obtain ⟨Ao78, co78, eo78⟩ := Kd.R_slice HO227.out; subst eo78; have hcz79_0 : w72.cell? ⟨gb228, 0, none⟩ = some (.string t223) := (blk_cell BK228.out 0).trans rfl; have hcz79_1 : w72.cell? ⟨gb228, 1, none⟩ = some (.bool t224) := (blk_cell BK228.out 1).trans rfl; have hfz79_0 := blk_frozen BK228.out 0; have hfz79_1 := blk_frozen BK228.out 1))
                 go_ret
                 exact ⟨by first | rfl | (simp [errW_none, errW_some] <;> rfl) | (simp only [← hji17]; first | rfl | (simp [errW_none, errW_some] <;> rfl)) | (simp [*, errW_none, errW_some] <;> rfl), by repeat (first | (with_reducible first | exact HB.out | apply below_alloc | apply pw_below_drewN | apply below_drew1 | refine below_set ?_ GE222.out | refine below_set ?_ GE228.out | refine below_set ?_ GE234.out) | exact HB.out)⟩
                ·
                 rw [if_neg c53] at H
                 have c53b0 : ((t225.length : Int) == 0) = false := beq_eq_false_iff_ne.mpr c53
                 have c53b1 : ((t225.length : Int) != 0) = true := bne_iff_ne.mpr c53
                 have c53b2 : ¬ (t225 = []) := fun h_ => c53 (by rw [h_]; rfl)
                 exact absurd (HT9.out ▸ Option.some.inj H : false = true) (by decide)
               ·
                rw [if_neg c52] at H
                have c52b0 : ((t219.length : Int) == 0) = false := beq_eq_false_iff_ne.mpr c52
                have c52b1 : ((t219.length : Int) != 0) = true := bne_iff_ne.mpr c52
                have c52b2 : ¬ (t219 = []) := fun h_ => c52 (by rw [h_]; rfl)
                exact absurd (HT9.out ▸ Option.some.inj H : false = true) (by decide)
              ·
               replace c51 := Bool.eq_false_iff.mpr c51
               subst c51
               have H1 : (if (t219.length : Int) = 1 then (some true) else (some false)) = some r := by rw [if_neg (show ¬ (false = true) by decide)] at H; exact H
               clear H; have H := H1; clear H1
               by_cases c129 : (t219.length : Int) = 1
               ·
                rw [if_pos c129] at H
                have c129b0 : ((t219.length : Int) == 1) = true := beq_iff_eq.mpr c129
                have c129b1 : ((t219.length : Int) != 1) = false := bne_eq_false_iff_eq.mpr c129
                clear c129
                obtain rfl := Option.some.inj H
                try go_wp2_with (first | ((with_reducible refine gate_callee (f := 31) rfl ?_); refine goesL_ (some 32) rfl rfl Try.func31 (by kernel_rfl) rfl #[.string x5_5] rfl (by (try simp only [List.map_toArray, List.map_cons, List.map_nil]); first | done | rfl | (simp only [List.length_drop, List.length_take]; rfl)) ?_; (with_reducible refine (impl_FrameOf.calls kj5 x5_5 t208 true _ A13.out).mono ?_); rintro e w130 ⟨rfl, hb⟩; refine ⟨_, rfl, ?_⟩; have n0_ := Aside0.mk (Kd.R_below (rrA HO_4.out) hb); have n1_ := Aside0.mk (below_step (by repeat (first | (with_reducible first | exact HB.out | apply below_alloc | apply pw_below_drewN | apply below_drew1) | exact HB.out)) hb); clear HO_4; clear HB; have HO_4 := n0_; have HB := n1_; clear n0_ n1_; (try clear hb); (try clear hb2); (try clear hk); (try clear hi)) | ((with_reducible refine gate_dst (N := 36) rfl ?_); (try (refine gate_guard (by rfl) ?_; dsimp only)); refine Kd.R_conv _ 5 rfl (N := 36) rfl 9 27 _ rfl t208 rfl Try.underlying9 Try.underlying27 Try.underlying5 (ok := fun _ => True) trivial (of_decide_eq_true (by first | (with_reducible assumption) | assumption)) (Below.refl _ _) (Nat.le_refl _) ?_; intro v211 w131 ho132 hb hg_ hnew_; clear hg_ hnew_; (first | rw [← Ny210.out] at ho132 | (simp only [Int.reduceToNat] at ho132; rw [← Ny210.out] at ho132)); have n0_ := Aside0.mk (Kd.R_below (rrA HO_4.out) hb); have n1_ := Aside0.mk (Kd.R_lower ho132 (below_size (by repeat (first | (with_reducible first | exact HB.out | apply below_alloc | apply pw_below_drewN | apply below_drew1) | exact HB.out)))); have n2_ := Aside0.mk (below_step (by repeat (first | (with_reducible first | exact HB.out | apply below_alloc | apply pw_below_drewN | apply below_drew1) | exact HB.out)) hb); clear HO_4; clear HB; have HO_4 := n0_; have HO212 := n1_; have HB := n2_; clear n0_ n1_ n2_; clear hb ho132; obtain ⟨Ao133, co133, eo133⟩ := Kd.R_slice HO_4.out; subst eo133; have p213 : 0 ≤ (0 : Int) := (by omega); have q213 : 0 < (t204.length : Int) := of_decide_eq_true (by first | (with_reducible assumption) | assumption); obtain ⟨ad213, e213, hx213_0⟩ := Kd.at_int (Kd.R_reads' HO_4.out).2.2 0 p213 q213; cases e213; have qi213 : (0 < t204.length) = True := eq_true (by omega); (try rw [show ((0 : Int)).toNat = 0 from rfl] at hx213_0); (try rw [Addr.add_zero'] at hx213_0); replace p213 := eq_true p213; replace q213 := eq_true q213; obtain ⟨Ao134, co134, eo134⟩ := Kd.R_slice HO212.out; subst eo134))
                have n0_ := Aside0.mk (Kd.R_drew HO_4.out)
                have n1_ := Aside0.mk (Kd.R_drew HO212.out)
                have n2_ := Aside0.mk (below_drew1 HB.out)
                clear HO_4; clear HO212; clear HB
                have HO_4 := n0_
                have HO212 := n1_
                have HB := n2_
                clear n0_ n1_ n2_
                have p214 : 0 ≤ ((ji17) : Int) := of_decide_eq_true (by first | (with_reducible assumption) | assumption)
                have q214 : (ji17) < (y210.length : Int) := of_decide_eq_true (by first | (with_reducible assumption) | assumption)
                obtain ⟨ad214, e214, hx214_0⟩ := Kd.at_int (Kd.R_reads' HO212.out).2.2 (ji17) p214 q214
                cases e214
                replace p214 := eq_true p214
                replace q214 := eq_true q214
                have p215 : 0 ≤ (1 : Int) := (by omega)
                have q215 : 1 < (t204.length : Int) := of_decide_eq_true (by first | (with_reducible assumption) | assumption)
                obtain ⟨ad215, e215, hx215_0⟩ := Kd.at_int (Kd.R_reads' HO_4.out).2.2 1 p215 q215
                obtain rfl : ad213 = ad215 := (by injection e215)
                (try simp only [show (1 : Int).toNat = 1 from rfl, Nat.reduceMul, Nat.reduceEqDiff, Go.Addr.add, ↓reduceIte] at hx215_0)
                have qi215 : (1 < t204.length) = True := eq_true (by omega)
                (try rw [show ((1 : Int)).toNat = 1 from rfl] at hx215_0)
                replace p215 := eq_true p215
                replace q215 := eq_true q215
                have p21 : 0 ≤ ((ji17) : Int) := of_decide_eq_true (by first | (with_reducible assumption) | assumption)
                have q21 : ((ji17) : Int) < ((y210.length : Int) : Int) := of_decide_eq_true (by first | (with_reducible assumption) | assumption)
                obtain ⟨go21, co21, eo21, gb21, gl21, cl21, fz_HG21, HG21⟩ := Kd.R_form HO212.out (by omega)
                (first | cases eo21 | (injection eo21 with ea_ en_ ec_; (first | subst ea_ | (injection ea_ with ea_; subst ea_)); subst ec_; clear en_))
                have GB21 := Aside0.mk gb21
                have GG21 := Aside0.mk HG21
                clear gb21 gl21 HG21
                (first | simp only [add_plain] at hx214_0 | skip)
                obtain ⟨hx21_0, hf21_0⟩ := Kd.R_celln 0 HO212.out ((ji17) : Int) p21 q21
                replace p21 := eq_true p21
                replace q21 := eq_true q21
                have HP136 := Kd.R_putn HO212.out ((ji17) : Int) (Go.bits .xor .u8 (rd y210 (ji17)) ((wrap64 (1 + (Int.tmod (rd t204 1) 255))) % 256))
                rw [← Ny216.out] at HP136
                have HQ136 := Aside0.mk HP136
                clear HP136
                refine start_ (n := 15) (S := fun w' => w'.cell? ⟨go21, ((ji17)).toNat, none⟩ = some (.int .u8 (rd y210 (ji17))) ∧ w'.cell? ⟨ad213.block, ad213.off + 1, none⟩ = some (.int .i64 (rd t204 1))) (ds := [14]) #[false, false, false, false, false, false, false, false, false, false, false, false, false, false, false] (by kernel_rfl) rfl rfl ⟨hx214_0, hx215_0⟩ (fun hHeld => ?_); refine with_tabW laws_FnTorn.tab11 laws_FnTorn.bits11 (fun HT_ HW_ => ?_)
                generalize w131.drew = w135 at HO_4 HO212 HB GG21 HQ136 hf21_0 hx214_0 hx215_0 hx21_0 hHeld ⊢
                refine pure_ (i := 0) (N := some 45) (v := ?_) (a' := ?_) #[true, false, false, false, false, false, false, false, false, false, false, false, false, false, false] rfl rfl (any_of HT_.out (by kernel_rfl)) (fun _ _ _ h => h) (Or.inl ⟨by rfl, ?_⟩) ?_ ?_; rotate_left
                · intro w'; go_simp; with_reducible rfl
                rotate_left
                · simp only [Act.put, List.setIfInBounds_toArray, List.set_cons_zero, List.set_cons_succ, i64_w, i32_w]; rfl
                refine pure_ (i := 1) (N := some 46) (v := ?_) (a' := ?_) #[true, true, false, false, false, false, false, false, false, false, false, false, false, false, false] rfl rfl (any_of HT_.out (by kernel_rfl)) (fun _ _ _ h => h) (Or.inl ⟨by rfl, ?_⟩) ?_ ?_; rotate_left
                · intro w'; go_simp; with_reducible rfl
                rotate_left
                · simp only [Act.put, List.setIfInBounds_toArray, List.set_cons_zero, List.set_cons_succ, i64_w, i32_w]; rfl
                refine pure_ (i := 2) (N := some 47) (v := ?_) (a' := ?_) #[true, true, true, false, false, false, false, false, false, false, false, false, false, false, false] rfl rfl (any_of HT_.out (by kernel_rfl)) (fun _ _ _ h => h) (Or.inl ⟨by rfl, ?_⟩) ?_ ?_; rotate_left
                · intro w'; go_simp; with_reducible rfl
                rotate_left
                · simp only [Act.put, List.setIfInBounds_toArray, List.set_cons_zero, List.set_cons_succ, i64_w, i32_w]; rfl
                refine pure_ (i := 3) (N := some 48) (v := ?_) (a' := ?_) #[true, true, true, true, false, false, false, false, false, false, false, false, false, false, false] rfl rfl (any_of HT_.out (by kernel_rfl)) (fun _ _ _ h => h) (Or.inl ⟨by rfl, ?_⟩) ?_ ?_; rotate_left
                · intro w'; go_simp; with_reducible rfl
                rotate_left
                · simp only [Act.put, List.setIfInBounds_toArray, List.set_cons_zero, List.set_cons_succ, i64_w, i32_w]; rfl
                refine pure_ (i := 4) (N := some 49) (v := ?_) (a' := ?_) #[true, true, true, true, true, false, false, false, false, false, false, false, false, false, false] rfl rfl (any_of HT_.out (by kernel_rfl)) (fun _ _ _ h => h) (Or.inl ⟨by rfl, ?_⟩) ?_ ?_; rotate_left
                · intro w'; go_simp; with_reducible rfl
                rotate_left
                · simp only [Act.put, List.setIfInBounds_toArray, List.set_cons_zero, List.set_cons_succ, i64_w, i32_w]; rfl
                refine pure_ (i := 6) (N := some 51) (v := ?_) (a' := ?_) #[true, true, true, true, true, false, true, false, false, false, false, false, false, false, false] rfl rfl (any_of HT_.out (by kernel_rfl)) (fun _ _ _ h => h) (Or.inl ⟨by rfl, ?_⟩) ?_ ?_; rotate_left
                · intro w'; go_simp; with_reducible rfl
                rotate_left
                · simp only [Act.put, List.setIfInBounds_toArray, List.set_cons_zero, List.set_cons_succ, i64_w, i32_w]; rfl
                refine pure_ (i := 7) (N := some 52) (v := ?_) (a' := ?_) #[true, true, true, true, true, false, true, true, false, false, false, false, false, false, false] rfl rfl (any_of HT_.out (by kernel_rfl)) (fun _ _ _ h => h) (Or.inl ⟨by rfl, ?_⟩) ?_ ?_; rotate_left
                · intro w'; go_simp; with_reducible rfl
                rotate_left
                · simp only [Act.put, List.setIfInBounds_toArray, List.set_cons_zero, List.set_cons_succ, i64_w, i32_w]; rfl
                refine take_ (i := 5) (N := some 50) (v := ?_) (a' := ?_) #[true, true, true, true, true, true, true, true, false, false, false, false, false, false, false] rfl rfl (take_ofW HT_.out HW_.out (by kernel_rfl)) (fun _ _ _ h => h) (Or.inl ⟨by rfl, ?_⟩) hHeld ?_ ?_; rotate_left
                ·
                 rintro w' ⟨s0, s1⟩
                 go_simp; with_reducible rfl
                rotate_left
                · simp only [Act.put, List.setIfInBounds_toArray, List.set_cons_zero, List.set_cons_succ, i64_w, i32_w]; rfl
                refine take_ (i := 8) (N := some 53) (v := ?_) (a' := ?_) #[true, true, true, true, true, true, true, true, true, false, false, false, false, false, false] rfl rfl (take_ofW HT_.out HW_.out (by kernel_rfl)) (fun _ _ _ h => h) (Or.inl ⟨by rfl, ?_⟩) hHeld ?_ ?_; rotate_left
                ·
                 rintro w' ⟨s0, s1⟩
                 go_simp; with_reducible rfl
                rotate_left
                · simp only [Act.put, List.setIfInBounds_toArray, List.set_cons_zero, List.set_cons_succ, i64_w, i32_w]; rfl
                refine pure_ (i := 9) (N := some 54) (v := ?_) (a' := ?_) #[true, true, true, true, true, true, true, true, true, true, false, false, false, false, false] rfl rfl (any_of HT_.out (by kernel_rfl)) (fun _ _ _ h => h) (Or.inl ⟨by rfl, ?_⟩) ?_ ?_; rotate_left
                · intro w'; go_simp; with_reducible rfl
                rotate_left
                · simp only [Act.put, List.setIfInBounds_toArray, List.set_cons_zero, List.set_cons_succ, i64_w, i32_w]; rfl
                refine pure_ (i := 10) (N := some 55) (v := ?_) (a' := ?_) #[true, true, true, true, true, true, true, true, true, true, true, false, false, false, false] rfl rfl (any_of HT_.out (by kernel_rfl)) (fun _ _ _ h => h) (Or.inl ⟨by rfl, ?_⟩) ?_ ?_; rotate_left
                · intro w'; go_simp; with_reducible rfl
                rotate_left
                · simp only [Act.put, List.setIfInBounds_toArray, List.set_cons_zero, List.set_cons_succ, i64_w, i32_w]; rfl
                refine pure_ (i := 11) (N := some 56) (v := ?_) (a' := ?_) #[true, true, true, true, true, true, true, true, true, true, true, true, false, false, false] rfl rfl (any_of HT_.out (by kernel_rfl)) (fun _ _ _ h => h) (Or.inl ⟨by rfl, ?_⟩) ?_ ?_; rotate_left
                · intro w'; go_simp; with_reducible rfl
                rotate_left
                · simp only [Act.put, List.setIfInBounds_toArray, List.set_cons_zero, List.set_cons_succ, i64_w, i32_w]; rfl
                refine pure_ (i := 12) (N := some 57) (v := ?_) (a' := ?_) #[true, true, true, true, true, true, true, true, true, true, true, true, true, false, false] rfl rfl (any_of HT_.out (by kernel_rfl)) (fun _ _ _ h => h) (Or.inl ⟨by rfl, ?_⟩) ?_ ?_; rotate_left
                · intro w'; go_simp; with_reducible rfl
                rotate_left
                · simp only [Act.put, List.setIfInBounds_toArray, List.set_cons_zero, List.set_cons_succ, i64_w, i32_w]; rfl
                refine pure_ (i := 13) (N := some 58) (v := ?_) (a' := ?_) #[true, true, true, true, true, true, true, true, true, true, true, true, true, true, false] rfl rfl (any_of HT_.out (by kernel_rfl)) (fun _ _ _ h => h) (Or.inl ⟨by rfl, ?_⟩) ?_ ?_; rotate_left
                · intro w'; go_simp; with_reducible rfl
                rotate_left
                · simp only [Act.put, List.setIfInBounds_toArray, List.set_cons_zero, List.set_cons_succ, i64_w, i32_w]; rfl
                refine last_ (i := 14) (N := none) #[true, true, true, true, true, true, true, true, true, true, true, true, true, true, true] rfl rfl (one_of HT_.out (by kernel_rfl)) (by decide) (fun K hK => ?_)
                refine skip_ (w1 := ?_) (by rfl) rfl ?_ ?_
                rotate_left
                · go_simp; rfl
                refine hK.out _ _ ?_
                clear hK K
                refine done_ (done_of HT_.out (by kernel_rfl)) ?_
                have n0_ : Aside0 (Kd.R (Kd.int .i64) 3 (w135.setCell ⟨go21, ((ji17) : Int).toNat, none⟩ (.int .u8 (Go.bits .xor .u8 (rd y210 (ji17)) ((wrap64 (1 + (Int.tmod (rd t204 1) 255))) % 256)))) w.heap.size (fun _ => True) (.slice (some ad213) t204.length co133) t204) := ⟨Kd.R_mono (Kd.R_far (p := ⟨go21, ((ji17) : Int).toNat, none⟩) (Kd.R_types HO_4.out GG21.out (by decide)) (fun _ hk => hk.2) (.int .u8 (Go.bits .xor .u8 (rd y210 (ji17)) ((wrap64 (1 + (Int.tmod (rd t204 1) 255))) % 256)))) (fun _ hk => trivial)⟩
                have n1_ : Aside0 (Kd.R (Kd.int .u8) 5 (w135.setCell ⟨go21, ((ji17) : Int).toNat, none⟩ (.int .u8 (Go.bits .xor .u8 (rd y210 (ji17)) ((wrap64 (1 + (Int.tmod (rd t204 1) 255))) % 256)))) w.heap.size (fun _ => True) (.slice (some ⟨go21, 0, none⟩) y210.length co134) y216) := ⟨(rrA HQ136.out)⟩
                have n2_ : Aside0 (Below w.heap.size w (w135.setCell ⟨go21, ((ji17) : Int).toNat, none⟩ (.int .u8 (Go.bits .xor .u8 (rd y210 (ji17)) ((wrap64 (1 + (Int.tmod (rd t204 1) 255))) % 256))))) := ⟨by repeat (first | (with_reducible first | exact HB.out | apply below_alloc | apply pw_below_drewN | apply below_drew1 | refine below_set ?_ GB21.out) | exact HB.out)⟩
                (try clear HO_4)
                (try clear HO212)
                (try clear HB)
                skip
                have HO_4 := n0_
                have HO212 := n1_
                have HB := n2_
                clear n0_ n1_ n2_
                have hcv138 := own_string (P := Try.prog) Try.underlying27 Try.underlying5 Try.underlying9 (Kd.own_of_R HO212.out)
                try go_wp2_with (first | ((with_reducible refine gate_callee (f := 32) rfl ?_); refine goesL_ (some 63) rfl rfl Try.func32 (by kernel_rfl) rfl #[.agg #[.string (⟨#[]⟩ : ByteArray), .bool false], .string (strOfNums y216)] rfl (by (try simp only [List.map_toArray, List.map_cons, List.map_nil]); first | done | rfl | (simp only [List.length_drop, List.length_take]; rfl)) ?_; (with_reducible refine (impl_FeedReader.calls kj5 (⟨#[]⟩ : ByteArray) false (strOfNums y216) t217 false t219 _ A22.out).mono ?_); rintro e w139 ⟨v220, rfl, ho0, hb⟩; refine ⟨_, rfl, ?_⟩; have n0_ := Aside0.mk (Kd.R_below (rrA HO_4.out) hb); have n1_ := Aside0.mk (Kd.R_below (rrA HO212.out) hb); have n2_ := Aside0.mk (Kd.R_lower ho0 (below_size (by repeat (first | (with_reducible first | exact HB.out | apply below_alloc | apply pw_below_drewN | apply below_drew1) | exact HB.out)))); have n3_ := Aside0.mk (below_step (by repeat (first | (with_reducible first | exact HB.out | apply below_alloc | apply pw_below_drewN | apply below_drew1) | exact HB.out)) hb); clear HO_4; clear HO212; clear HB; have HO_4 := n0_; have HO212 := n1_; have HO221 := n2_; have HB := n3_; clear n0_ n1_ n2_ n3_; (try clear hb); (try clear hb2); (try clear hk); (try clear hi); (try clear ho0)) | ((with_reducible refine gate_dst (N := 10) rfl ?_); (try (refine gate_guard (by rfl) ?_; dsimp only)); refine box_event ?hg (N := 10) ?hd (cs := #[.string (⟨#[]⟩ : ByteArray), .bool false]) (t := 48) ?hr ?_; (case hd => rfl); (case hg => rfl); (case hr => first | (go_simp; done) | (go_simp; rfl)); intro gb222 hg w140 hbox hb; have n0_ := Aside0.mk (Kd.R_below (rrA HO_4.out) hb); have n1_ := Aside0.mk (Kd.R_below (rrA HO212.out) hb); have n2_ := Aside0.mk (Kd.R_below (rrA HO221.out) hb); have n3_ := Aside0.mk (below_step (by repeat (first | (with_reducible first | exact HB.out | apply below_alloc | apply pw_below_drewN | apply below_drew1) | exact HB.out)) hb); have n4_ := Aside0.mk (hbox); have n5_ := Aside0.mk ((by rw [hg]; exact (below_size (by repeat (first | (with_reducible first | exact HB.out | apply below_alloc | apply pw_below_drewN | apply below_drew1) | exact HB.out))) : w.heap.size ≤ gb222)); have n6_ := Aside0.mk ((by rw [hg]; exact (below_size (by repeat (first | (with_reducible first | exact HB.out | apply below_alloc | apply pw_below_drewN | apply below_drew1) | exact HB.out))) : w.heap.size ≤ gb222)); clear HO_4; clear HO212; clear HO221; clear HB; have HO_4 := n0_; have HO212 := n1_; have HO221 := n2_; have HB := n3_; have BK222 := n4_; have GW222 := n5_; have GE222 := n6_; clear n0_ n1_ n2_ n3_ n4_ n5_ n6_; clear hb hbox hg; have hcz141_0 : w140.cell? ⟨gb222, 0, none⟩ = some (.string (⟨#[]⟩ : ByteArray)) := (blk_cell BK222.out 0).trans rfl; have hcz141_1 : w140.cell? ⟨gb222, 1, none⟩ = some (.bool false) := (blk_cell BK222.out 1).trans rfl; have hfz141_0 := blk_frozen BK222.out 0; have hfz141_1 := blk_frozen BK222.out 1) | ((with_reducible refine gate_callee (f := 32) rfl ?_); refine goesL_ (some 69) rfl rfl Try.func32 (by kernel_rfl) rfl #[.agg #[.string t217, .bool false], .string t208] rfl (by (try simp only [List.map_toArray, List.map_cons, List.map_nil]); first | done | rfl | (simp only [List.length_drop, List.length_take]; rfl)) ?_; (with_reducible refine (impl_FeedReader.calls kj5 t217 false t208 t223 t224 t225 _ A23.out).mono ?_); rintro e w142 ⟨v226, rfl, ho0, hb⟩; refine ⟨_, rfl, ?_⟩; have n0_ := Aside0.mk (Kd.R_below (rrA (Kd.R_mono (Kd.R_far (p := ⟨gb222, 1, none⟩) (Kd.R_far (p := ⟨gb222, 0, none⟩) (Kd.R_types HO_4.out BK222.out (by decide)) (fun _ hk => hk.2) (.string t217)) (fun _ hk => hk.2) (.bool false)) (fun _ h_ => h_.1))) hb); have n1_ := Aside0.mk (Kd.R_below (rrA (Kd.R_mono (Kd.R_far (p := ⟨gb222, 1, none⟩) (Kd.R_far (p := ⟨gb222, 0, none⟩) (Kd.R_types HO212.out BK222.out (by decide)) (fun _ hk => hk.2) (.string t217)) (fun _ hk => hk.2) (.bool false)) (fun _ h_ => h_.1))) hb); have n2_ := Aside0.mk (Kd.R_elder' (rrA (Kd.R_mono (Kd.R_far (p := ⟨gb222, 1, none⟩) (Kd.R_far (p := ⟨gb222, 0, none⟩) (Kd.R_types HO221.out BK222.out (by decide)) (fun _ hk => hk.2) (.string t217)) (fun _ hk => hk.2) (.bool false)) (fun _ h_ => h_.1))) (Kd.R_base ho0) hb); have n3_ := Aside0.mk (Kd.R_lower (Kd.R_new' ho0 (Kd.R_lt (rrA (Kd.R_mono (Kd.R_far (p := ⟨gb222, 1, none⟩) (Kd.R_far (p := ⟨gb222, 0, none⟩) (Kd.R_types HO221.out BK222.out (by decide)) (fun _ hk => hk.2) (.string t217)) (fun _ hk => hk.2) (.bool false)) (fun _ h_ => h_.1))))) (below_size (by repeat (first | (with_reducible first | exact HB.out | apply below_alloc | apply pw_below_drewN | apply below_drew1 | refine below_set ?_ GE222.out) | exact HB.out)))); have n4_ := Aside0.mk (blk_below (g := gb222) (o := .cells #[.string t217, .bool false] 48 (0, 0)) (by (with_reducible repeat (first | refine blk_drewN ?_ _ | refine blk_drew ?_ | refine blk_alloc ?_ _)); refine blk_put (cs := #[.string t217, .bool false]) ?_ 1 _ rfl; (with_reducible repeat (first | refine blk_drewN ?_ _ | refine blk_drew ?_ | refine blk_alloc ?_ _)); refine blk_put (cs := #[.string (⟨#[]⟩ : ByteArray), .bool false]) ?_ 0 _ rfl; (with_reducible repeat (first | refine blk_drewN ?_ _ | refine blk_drew ?_ | refine blk_alloc ?_ _)); exact BK222.out) hb); have n5_ := Aside0.mk (below_step (by repeat (first | (with_reducible first | exact HB.out | apply below_alloc | apply pw_below_drewN | apply below_drew1 | refine below_set ?_ GE222.out) | exact HB.out)) hb); clear HO_4; clear HO212; clear HO221; clear BK222; clear HB; have HO_4 := n0_; have HO212 := n1_; have HO221 := n2_; have HO227 := n3_; have BK222 := n4_; have HB := n5_; clear n0_ n1_ n2_ n3_ n4_ n5_; (try clear hb); (try clear hb2); (try clear hk); (try clear hi); (try clear ho0)) | ((with_reducible refine gate_dst (N := 12) rfl ?_); (try (refine gate_guard (by rfl) ?_; dsimp only)); refine box_event ?hg (N := 12) ?hd (cs := #[.string (⟨#[]⟩ : ByteArray), .bool false]) (t := 48) ?hr ?_; (case hd => rfl); (case hg => rfl); (case hr => first | (go_simp; done) | (go_simp; rfl)); intro gb228 hg w143 hbox hb; have n0_ := Aside0.mk (Kd.R_below (rrA HO_4.out) hb); have n1_ := Aside0.mk (Kd.R_below (rrA HO212.out) hb); have n2_ := Aside0.mk (Kd.R_below (rrA HO221.out) hb); have n3_ := Aside0.mk (Kd.R_below (rrA HO227.out) hb); have n4_ := Aside0.mk (blk_below (g := gb222) (o := .cells #[.string t217, .bool false] 48 (0, 0)) (rrB BK222.out) hb); have n5_ := Aside0.mk (below_step (by repeat (first | (with_reducible first | exact HB.out | apply below_alloc | apply pw_below_drewN | apply below_drew1 | refine below_set ?_ GE222.out) | exact HB.out)) hb); have n6_ := Aside0.mk (hbox); have n7_ := Aside0.mk ((by rw [hg]; exact (below_size (by repeat (first | (with_reducible first | exact HB.out | apply below_alloc | apply pw_below_drewN | apply below_drew1 | refine below_set ?_ GE222.out) | exact HB.out))) : w.heap.size ≤ gb228)); have n8_ := Aside0.mk ((by rw [hg]; exact (below_size (by repeat (first | (with_reducible first | exact HB.out | apply below_alloc | apply pw_below_drewN | apply below_drew1 | refine below_set ?_ GE222.out) | exact HB.out))) : w.heap.size ≤ gb228)); have n9_ := Aside0.mk ((by rw [hg]; exact Nat.ne_of_lt (blk_lt (g := gb222) (o := .cells #[.string t217, .bool false] 48 (0, 0)) (rrB BK222.out)) : gb222 ≠ gb228)); have n10_ := Aside0.mk ((by rw [hg]; exact Nat.ne_of_gt (blk_lt (g := gb222) (o := .cells #[.string t217, .bool false] 48 (0, 0)) (rrB BK222.out)) : gb228 ≠ gb222)); clear HO_4; clear HO212; clear HO221; clear HO227; clear BK222; clear HB; have HO_4 := n0_; have HO212 := n1_; have HO221 := n2_; have HO227 := n3_; have BK222 := n4_; have HB := n5_; have BK228 := n6_; have GW228 := n7_; have GE228 := n8_; have NB222_228 := n9_; have NB228_222 := n10_; clear n0_ n1_ n2_ n3_ n4_ n5_ n6_ n7_ n8_ n9_ n10_; clear hb hbox hg; have hnb144 := NB228_222.out; have hnc144 := NB222_228.out; have hcz145_0 : w143.cell? ⟨gb228, 0, none⟩ = some (.string (⟨#[]⟩ : ByteArray)) := (blk_cell BK228.out 0).trans rfl; have hcz145_1 : w143.cell? ⟨gb228, 1, none⟩ = some (.bool false) := (blk_cell BK228.out 1).trans rfl; have hfz145_0 := blk_frozen BK228.out 0; have hfz145_1 := blk_frozen BK228.out 1; have hcv146 := own_string (P := Try.prog) Try.underlying27 Try.underlying5 Try.underlying9 (Kd.own_of_R (Kd.R_far (p := ⟨gb228, 1, none⟩) (Kd.R_far (p := ⟨gb228, 0, none⟩) (Kd.R_types HO212.out BK228.out (by decide)) (fun _ hk => hk.2) (.string t223)) (fun _ hk => hk.2) (.bool t224)))) | ((with_reducible refine gate_callee (f := 33) rfl ?_); refine goesL_ (some 76) rfl rfl Try.func33 (by kernel_rfl) rfl #[.agg #[.string (⟨#[]⟩ : ByteArray), .bool false], .string (strOfNums y216)] rfl (by (try simp only [List.map_toArray, List.map_cons, List.map_nil]); first | done | rfl | (simp only [List.length_drop, List.length_take]; rfl)) ?_; (with_reducible refine (spec_FeedReader.calls kj5 (⟨#[]⟩ : ByteArray) false (strOfNums y216) t229 t230 t231 _ A24.out).mono ?_); rintro e w147 ⟨v232, rfl, ho0, hb⟩; refine ⟨_, rfl, ?_⟩; have n0_ := Aside0.mk (Kd.R_below (rrA (Kd.R_mono (Kd.R_far (p := ⟨gb228, 1, none⟩) (Kd.R_far (p := ⟨gb228, 0, none⟩) (Kd.R_types HO_4.out BK228.out (by decide)) (fun _ hk => hk.2) (.string t223)) (fun _ hk => hk.2) (.bool t224)) (fun _ h_ => h_.1))) hb); have n1_ := Aside0.mk (Kd.R_below (rrA (Kd.R_mono (Kd.R_far (p := ⟨gb228, 1, none⟩) (Kd.R_far (p := ⟨gb228, 0, none⟩) (Kd.R_types HO212.out BK228.out (by decide)) (fun _ hk => hk.2) (.string t223)) (fun _ hk => hk.2) (.bool t224)) (fun _ h_ => h_.1))) hb); have n2_ := Aside0.mk (Kd.R_elder' (rrA (Kd.R_mono (Kd.R_far (p := ⟨gb228, 1, none⟩) (Kd.R_far (p := ⟨gb228, 0, none⟩) (Kd.R_types HO221.out BK228.out (by decide)) (fun _ hk => hk.2) (.string t223)) (fun _ hk => hk.2) (.bool t224)) (fun _ h_ => h_.1))) (Kd.R_base ho0) hb); have n3_ := Aside0.mk (Kd.R_elder' (rrA (Kd.R_mono (Kd.R_far (p := ⟨gb228, 1, none⟩) (Kd.R_far (p := ⟨gb228, 0, none⟩) (Kd.R_types HO227.out BK228.out (by decide)) (fun _ hk => hk.2) (.string t223)) (fun _ hk => hk.2) (.bool t224)) (fun _ h_ => h_.1))) (Kd.R_base ho0) hb); have n4_ := Aside0.mk (Kd.R_lower (Kd.R_new' (Kd.R_new' ho0 (Kd.R_lt (rrA (Kd.R_mono (Kd.R_far (p := ⟨gb228, 1, none⟩) (Kd.R_far (p := ⟨gb228, 0, none⟩) (Kd.R_types HO221.out BK228.out (by decide)) (fun _ hk => hk.2) (.string t223)) (fun _ hk => hk.2) (.bool t224)) (fun _ h_ => h_.1))))) (Kd.R_lt (rrA (Kd.R_mono (Kd.R_far (p := ⟨gb228, 1, none⟩) (Kd.R_far (p := ⟨gb228, 0, none⟩) (Kd.R_types HO227.out BK228.out (by decide)) (fun _ hk => hk.2) (.string t223)) (fun _ hk => hk.2) (.bool t224)) (fun _ h_ => h_.1))))) (below_size (by repeat (first | (with_reducible first | exact HB.out | apply below_alloc | apply pw_below_drewN | apply below_drew1 | refine below_set ?_ GE222.out | refine below_set ?_ GE228.out) | exact HB.out)))); have n5_ := Aside0.mk (blk_below (g := gb222) (o := .cells #[.string t217, .bool false] 48 (0, 0)) (by (with_reducible repeat (first | refine blk_drewN ?_ _ | refine blk_drew ?_ | refine blk_alloc ?_ _)); refine blk_far ?_ NB222_228.out _; (with_reducible repeat (first | refine blk_drewN ?_ _ | refine blk_drew ?_ | refine blk_alloc ?_ _)); refine blk_far ?_ NB222_228.out _; (with_reducible repeat (first | refine blk_drewN ?_ _ | refine blk_drew ?_ | refine blk_alloc ?_ _)); exact BK222.out) hb); have n6_ := Aside0.mk (blk_below (g := gb228) (o := .cells #[.string t223, .bool t224] 48 (0, 0)) (by (with_reducible repeat (first | refine blk_drewN ?_ _ | refine blk_drew ?_ | refine blk_alloc ?_ _)); refine blk_put (cs := #[.string t223, .bool false]) ?_ 1 _ rfl; (with_reducible repeat (first | refine blk_drewN ?_ _ | refine blk_drew ?_ | refine blk_alloc ?_ _)); refine blk_put (cs := #[.string (⟨#[]⟩ : ByteArray), .bool false]) ?_ 0 _ rfl; (with_reducible repeat (first | refine blk_drewN ?_ _ | refine blk_drew ?_ | refine blk_alloc ?_ _)); exact BK228.out) hb); have n7_ := Aside0.mk (below_step (by repeat (first | (with_reducible first | exact HB.out | apply below_alloc | apply pw_below_drewN | apply below_drew1 | refine below_set ?_ GE222.out | refine below_set ?_ GE228.out) | exact HB.out)) hb); clear HO_4; clear HO212; clear HO221; clear HO227; clear BK222; clear BK228; clear HB; have HO_4 := n0_; have HO212 := n1_; have HO221 := n2_; have HO227 := n3_; have HO233 := n4_; have BK222 := n5_; have BK228 := n6_; have HB := n7_; clear n0_ n1_ n2_ n3_ n4_ n5_ n6_ n7_; (try clear hb); (try clear hb2); (try clear hk); (try clear hi); (try clear ho0)) | ((with_reducible refine gate_dst (N := 14) rfl ?_); (try (refine gate_guard (by rfl) ?_; dsimp only)); refine box_event ?hg (N := 14) ?hd (cs := #[.string (⟨#[]⟩ : ByteArray), .bool false]) (t := 48) ?hr ?_; (case hd => rfl); (case hg => rfl); (case hr => first | (go_simp; done) | (go_simp; rfl)); intro gb234 hg w148 hbox hb; have n0_ := Aside0.mk (Kd.R_below (rrA HO_4.out) hb); have n1_ := Aside0.mk (Kd.R_below (rrA HO212.out) hb); have n2_ := Aside0.mk (Kd.R_below (rrA HO221.out) hb); have n3_ := Aside0.mk (Kd.R_below (rrA HO227.out) hb); have n4_ := Aside0.mk (Kd.R_below (rrA HO233.out) hb); have n5_ := Aside0.mk (blk_below (g := gb222) (o := .cells #[.string t217, .bool false] 48 (0, 0)) (rrB BK222.out) hb); have n6_ := Aside0.mk (blk_below (g := gb228) (o := .cells #[.string t223, .bool t224] 48 (0, 0)) (rrB BK228.out) hb); have n7_ := Aside0.mk (below_step (by repeat (first | (with_reducible first | exact HB.out | apply below_alloc | apply pw_below_drewN | apply below_drew1 | refine below_set ?_ GE222.out | refine below_set ?_ GE228.out) | exact HB.out)) hb); have n8_ := Aside0.mk (hbox); have n9_ := Aside0.mk ((by rw [hg]; exact (below_size (by repeat (first | (with_reducible first | exact HB.out | apply below_alloc | apply pw_below_drewN | apply below_drew1 | refine below_set ?_ GE222.out | refine below_set ?_ GE228.out) | exact HB.out))) : w.heap.size ≤ gb234)); have n10_ := Aside0.mk ((by rw [hg]; exact (below_size (by repeat (first | (with_reducible first | exact HB.out | apply below_alloc | apply pw_below_drewN | apply below_drew1 | refine below_set ?_ GE222.out | refine below_set ?_ GE228.out) | exact HB.out))) : w.heap.size ≤ gb234)); have n11_ := Aside0.mk ((by rw [hg]; exact Nat.ne_of_lt (blk_lt (g := gb222) (o := .cells #[.string t217, .bool false] 48 (0, 0)) (rrB BK222.out)) : gb222 ≠ gb234)); have n12_ := Aside0.mk ((by rw [hg]; exact Nat.ne_of_gt (blk_lt (g := gb222) (o := .cells #[.string t217, .bool false] 48 (0, 0)) (rrB BK222.out)) : gb234 ≠ gb222)); have n13_ := Aside0.mk ((by rw [hg]; exact Nat.ne_of_lt (blk_lt (g := gb228) (o := .cells #[.string t223, .bool t224] 48 (0, 0)) (rrB BK228.out)) : gb228 ≠ gb234)); have n14_ := Aside0.mk ((by rw [hg]; exact Nat.ne_of_gt (blk_lt (g := gb228) (o := .cells #[.string t223, .bool t224] 48 (0, 0)) (rrB BK228.out)) : gb234 ≠ gb228)); clear HO_4; clear HO212; clear HO221; clear HO227; clear HO233; clear BK222; clear BK228; clear HB; have HO_4 := n0_; have HO212 := n1_; have HO221 := n2_; have HO227 := n3_; have HO233 := n4_; have BK222 := n5_; have BK228 := n6_; have HB := n7_; have BK234 := n8_; have GW234 := n9_; have GE234 := n10_; have NB222_234 := n11_; have NB234_222 := n12_; have NB228_234 := n13_; have NB234_228 := n14_; clear n0_ n1_ n2_ n3_ n4_ n5_ n6_ n7_ n8_ n9_ n10_ n11_ n12_ n13_ n14_; clear hb hbox hg; have hnb149 := NB234_222.out; have hnc149 := NB222_234.out; have hnb150 := NB234_228.out; have hnc150 := NB228_234.out; have hcz151_0 : w148.cell? ⟨gb234, 0, none⟩ = some (.string (⟨#[]⟩ : ByteArray)) := (blk_cell BK234.out 0).trans rfl; have hcz151_1 : w148.cell? ⟨gb234, 1, none⟩ = some (.bool false) := (blk_cell BK234.out 1).trans rfl; have hfz151_0 := blk_frozen BK234.out 0; have hfz151_1 := blk_frozen BK234.out 1; have hcz152_0 : w148.cell? ⟨gb222, 0, none⟩ = some (.string t217) := (blk_cell BK222.out 0).trans rfl; have hcz152_1 : w148.cell? ⟨gb222, 1, none⟩ = some (.bool false) := (blk_cell BK222.out 1).trans rfl; have hfz152_0 := blk_frozen BK222.out 0; have hfz152_1 := blk_frozen BK222.out 1; obtain ⟨Ao153, co153, eo153⟩ := Kd.R_slice HO221.out; subst eo153))
                go_ret
                exact ⟨by first | rfl | (simp [errW_none, errW_some] <;> rfl) | (simp only [← hji17]; first | rfl | (simp [errW_none, errW_some] <;> rfl)) | (simp [*, errW_none, errW_some] <;> rfl), by repeat (first | (with_reducible first | exact HB.out | apply below_alloc | apply pw_below_drewN | apply below_drew1 | refine below_set ?_ GE222.out | refine below_set ?_ GE228.out | refine below_set ?_ GE234.out) | exact HB.out)⟩
               ·
                rw [if_neg c129] at H
                have c129b0 : ((t219.length : Int) == 1) = false := beq_eq_false_iff_ne.mpr c129
                have c129b1 : ((t219.length : Int) != 1) = true := bne_iff_ne.mpr c129
                exact absurd (HT9.out ▸ Option.some.inj H : false = true) (by decide)
             ·
              rw [if_neg c50] at H
              have c50b0 : (t217.toList == t229.toList) = false := beq_eq_false_iff_ne.mpr c50
              have c50b1 : (t217.toList != t229.toList) = true := bne_iff_ne.mpr c50
              exact absurd (HT9.out ▸ Option.some.inj H : false = true) (by decide)
           ·
            replace c25 := Bool.eq_false_iff.mpr c25
            subst c25
            have H1 : (some false) = some r := by rw [if_neg (show ¬ (false = true) by decide)] at H; exact H
            clear H; have H := H1; clear H1
            exact absurd (HT9.out ▸ Option.some.inj H : false = true) (by decide)
          ·
           rw [if_neg c20] at H
           exact absurd H (by simp)
         ·
          rw [if_neg c19] at H
          exact absurd H (by simp)
        ·
         rw [if_neg c18] at H
         exact absurd H (by simp)
      ·
       rw [if_neg c15] at H
       exact absurd H (by simp)
     ·
      rw [if_neg c14] at H
      exact absurd H (by simp)

/-- THE ONE PURE STATEMENT of laws_FnTorn: yours. -/
def laws_FnTorn.Pure : Prop := ∀ (l0 : List Int), l0.length ≤ maxLen → l0.length * 1 ≤ 140737488351232 → (∀ x ∈ l0, (Lit.int .u8 x).wf = true) → ∃ k, laws_FnTorn.f k l0 = some true
theorem laws_FnTorn.walk (P : laws_FnTorn.Pure) (a0 : Option Addr) (len0 cap0 : Nat) (z0 : List Int) (w : World) (w0 : (a0 = none ∧ len0 = 0 ∧ cap0 = 0 ∧ z0 = []) ∨ ∃ x, a0 = some x ∧ len0 ≤ cap0 ∧ cap0 ≤ maxLen ∧ z0.length = cap0 ∧ (∀ i, i < z0.length → w.cell? (x.add i) = some (.int .u8 (z0.getD i 0))) ∧ ∀ n ∈ z0, (Lit.int .u8 n).wf = true) (y0 : len0 * 1 ≤ 140737488351232) :
   Calls Try.prog 7 #[.slice a0 len0 cap0] w fun e w' => e = .returned (.bool true) ∧ Below w.heap.size w w' := by
  obtain ⟨l0, rfl, hr0, hm0, hw0, hc0⟩ := ReadsInt.ofRowC w0
  obtain ⟨k, h⟩ := P l0 hm0 y0 hw0
  refine (laws_FnTorn.calls k _ _ l0 true w (Kd.C_of_reads (d := (0 : Int)) (h1 := fun _ => rfl) hr0) hc0 h rfl).mono ?_
  rintro e w' ⟨rfl, hd⟩
  exact ⟨rfl, hd⟩

end Go.Proofs.Ytfakkehopmihoaa.PFnTorn
