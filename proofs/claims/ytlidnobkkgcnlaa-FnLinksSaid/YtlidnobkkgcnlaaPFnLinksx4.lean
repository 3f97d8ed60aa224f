-- Written by a program out of the translation,for this claim.
import Derived.Test.YtlidnobkkgcnlaaPFnLinksx0
import Derived.Test.YtlidnobkkgcnlaaPFnLinksx1
import Derived.Test.YtlidnobkkgcnlaaPFnLinksx2
import Derived.Test.YtlidnobkkgcnlaaPFnLinksx3
namespace Go.Proofs.Ytlidnobkkgcnlaa.PFnLinks
open Go.RowKit Go.Proofs.YtlidnobkkgcnlaaW.PrintWords Go.Proofs.YtlidnobkkgcnlaaW.PrintLast Go.Proofs.YtlidnobkkgcnlaaW.PrintMore
attribute [local go_sem] max2_int min2_int max_two min_two max_three min_three max_four min_four   -- for this text's walks alone
set_option linter.unusedVariables false
set_option linter.unusedSimpArgs false
theorem rrA4 {p q : Prop} (h : p) (f : p → q := by (intro h_; (with_reducible repeat (first | apply Kd.R_alloc | apply Kd.R_drewN | apply Kd.R_drew)); exact h_)) : q := f h
open Go.Proofs.YtlidnobkkgcnlaaW.PrintWords.Aside0 renaming mk → zA
open Go.Proofs.YtlidnobkkgcnlaaW.PrintWords.Kd renaming R_mono → zB
open Go.Proofs.YtlidnobkkgcnlaaW.PrintWords renaming below_set → zC
open Go.Proofs.YtlidnobkkgcnlaaW.PrintWords renaming below_alloc → zD
open Go.Proofs.YtlidnobkkgcnlaaW.PrintWords renaming below_drew1 → zE
open Go.Proofs.YtlidnobkkgcnlaaW.PrintWords renaming pw_below_drewN → zF

/-! ### spec_DrawTalk: function 33 -/
mutual
def spec_DrawTalk.l0 : Nat → List Int → List ByteArray → Int → List Int → Int → Int → Option (List ByteArray × List Int)
  | 0,_,_,_,_,_,_ => none
  | k + 1,x0,x5,x6,x138000,x138001,x138002 => (spec_l01Below.f x138000 x138001 x138002 9).bind fun bt141 => (if x6 < bt141.1 then ((spec_l03Name.f x138000 bt141.2.1 bt141.2.2).bind fun bt144 => (if x5.length < 8796093022208 then (spec_DrawTalk.l0 k x0 (x5 ++ [bt144.1]) (wrap64 (x6 + 1)) x138000 bt144.2.1 bt144.2.2) else (none))) else (spec_DrawTalk.l1 k x0 x5 (([] : List Int)) 0 x138000 bt141.2.1 bt141.2.2))
def spec_DrawTalk.l1 : Nat → List Int → List ByteArray → List Int → Int → List Int → Int → Int → Option (List ByteArray × List Int)
  | 0,_,_,_,_,_,_,_ => none
  | k + 1,x0,x5,x7,x8,x138000,x138001,x138002 => (spec_l01Below.f x138000 x138001 x138002 40).bind fun bt153 => (if x8 < (wrap64 (bt153.1 + (Int.tmod (wrap64 ((x0.length : Int) / 4)) 100))) then ((spec_l01Below.f x138000 bt153.2.1 bt153.2.2 12).bind fun bt156 => (if x7.length < 17592186044416 then (spec_DrawTalk.l1 k x0 x5 (x7 ++ [bt156.1]) (wrap64 (x8 + 1)) x138000 bt156.2.1 bt156.2.2) else (none))) else ((spec_l01Below.f x138000 bt153.2.1 bt153.2.2 20).bind fun bt162 => (if bt162.1 = 0 then (if x7.length < 17592186044416 then (some (x5,(x7 ++ [(-1)]))) else (none)) else (if bt162.1 = 1 then ((spec_l01Long.f k 61 65).bind fun t168 => (if x5.length < 8796093022208 then (some ((x5 ++ [t168]),x7)) else (none))) else (if bt162.1 = 2 then (spec_DrawTalk.l2 k x5 x7 x138000 bt162.2.1 bt162.2.2) else (some (x5,x7)))))))
def spec_DrawTalk.l2 : Nat → List ByteArray → List Int → List Int → Int → Int → Option (List ByteArray × List Int)
  | 0,_,_,_,_,_ => none
  | k + 1,x5,x7,x138000,x138001,x138002 => (spec_l01Below.f x138000 x138001 x138002 2).bind fun bt172 => (if (x5.length : Int) < (wrap64 (20 + bt172.1)) then (if x5.length < 8796093022208 then (spec_DrawTalk.l2 k (x5 ++ [(⟨#[113]⟩ : ByteArray)]) x7 x138000 bt172.2.1 bt172.2.2) else (none)) else (some (x5,x7)))
end
def spec_DrawTalk.f (k : Nat) (l0 : List Int) : Option (List ByteArray × List Int) := (spec_l01New.f k l0).bind fun bt134 => (spec_DrawTalk.l0 k l0 (([] : List ByteArray)) 0 bt134.1 bt134.2.1 bt134.2.2)
theorem spec_DrawTalk.mono_l : ∀ k,(∀ y0 y1 y2 y3 y4 y5,LeO (spec_DrawTalk.l0 k y0 y1 y2 y3 y4 y5) (spec_DrawTalk.l0 (k + 1) y0 y1 y2 y3 y4 y5)) ∧ (∀ y0 y1 y2 y3 y4 y5 y6,LeO (spec_DrawTalk.l1 k y0 y1 y2 y3 y4 y5 y6) (spec_DrawTalk.l1 (k + 1) y0 y1 y2 y3 y4 y5 y6)) ∧ (∀ y0 y1 y2 y3 y4,LeO (spec_DrawTalk.l2 k y0 y1 y2 y3 y4) (spec_DrawTalk.l2 (k + 1) y0 y1 y2 y3 y4))
  | 0 => ⟨fun _ _ _ _ _ _ r h => by simp [spec_DrawTalk.l0] at h,fun _ _ _ _ _ _ _ r h => by simp [spec_DrawTalk.l1] at h,fun _ _ _ _ _ r h => by simp [spec_DrawTalk.l2] at h⟩
  | k + 1 => by
   obtain ⟨ih0,ih1,ih2⟩ := spec_DrawTalk.mono_l k
   refine ⟨?_,?_,?_⟩
   ·
    intro y0 y1 y2 y3 y4 y5
    unfold spec_DrawTalk.l0
    repeat' first
   |(with_reducible exact ih0 _ _ _ _ _ _)
   |(with_reducible exact ih1 _ _ _ _ _ _ _)
   |(with_reducible exact ih2 _ _ _ _ _)
   |(with_reducible exact spec_l01Long.mono _ _ _)
   |(with_reducible exact spec_l01New.mono _ _)
   |(with_reducible exact LeO.refl _)
   |(with_reducible exact LeO.none _)
   |(with_reducible refine LeO.ite ?_ ?_)
   |(with_reducible refine LeO.bind ?_ (fun _ => ?_))
   |exact ih0 _ _ _ _ _ _
   |exact ih1 _ _ _ _ _ _ _
   |exact ih2 _ _ _ _ _
   |exact spec_l01Long.mono _ _ _
   |exact spec_l01New.mono _ _
   |exact LeO.none _
   |refine LeO.ite ?_ ?_
   |refine LeO.bind ?_ (fun _ => ?_)
   ·
    intro y0 y1 y2 y3 y4 y5 y6
    unfold spec_DrawTalk.l1
    repeat' first
   |(with_reducible exact ih0 _ _ _ _ _ _)
   |(with_reducible exact ih1 _ _ _ _ _ _ _)
   |(with_reducible exact ih2 _ _ _ _ _)
   |(with_reducible exact spec_l01Long.mono _ _ _)
   |(with_reducible exact spec_l01New.mono _ _)
   |(with_reducible exact LeO.refl _)
   |(with_reducible exact LeO.none _)
   |(with_reducible refine LeO.ite ?_ ?_)
   |(with_reducible refine LeO.bind ?_ (fun _ => ?_))
   |exact ih0 _ _ _ _ _ _
   |exact ih1 _ _ _ _ _ _ _
   |exact ih2 _ _ _ _ _
   |exact spec_l01Long.mono _ _ _
   |exact spec_l01New.mono _ _
   |exact LeO.none _
   |refine LeO.ite ?_ ?_
   |refine LeO.bind ?_ (fun _ => ?_)
   ·
    intro y0 y1 y2 y3 y4
    unfold spec_DrawTalk.l2
    repeat' first
   |(with_reducible exact ih0 _ _ _ _ _ _)
   |(with_reducible exact ih1 _ _ _ _ _ _ _)
   |(with_reducible exact ih2 _ _ _ _ _)
   |(with_reducible exact spec_l01Long.mono _ _ _)
   |(with_reducible exact spec_l01New.mono _ _)
   |(with_reducible exact LeO.refl _)
   |(with_reducible exact LeO.none _)
   |(with_reducible refine LeO.ite ?_ ?_)
   |(with_reducible refine LeO.bind ?_ (fun _ => ?_))
   |exact ih0 _ _ _ _ _ _
   |exact ih1 _ _ _ _ _ _ _
   |exact ih2 _ _ _ _ _
   |exact spec_l01Long.mono _ _ _
   |exact spec_l01New.mono _ _
   |exact LeO.none _
   |refine LeO.ite ?_ ?_
   |refine LeO.bind ?_ (fun _ => ?_)
theorem spec_DrawTalk.mono : ∀ a0 k,LeO (spec_DrawTalk.f k a0) (spec_DrawTalk.f (k + 1) a0) := by
  intro a0 k
  obtain ⟨ih0,ih1,ih2⟩ := spec_DrawTalk.mono_l k
  unfold spec_DrawTalk.f
  repeat' first
   |(with_reducible exact ih0 _ _ _ _ _ _)
   |(with_reducible exact ih1 _ _ _ _ _ _ _)
   |(with_reducible exact ih2 _ _ _ _ _)
   |(with_reducible exact spec_l01Long.mono _ _ _)
   |(with_reducible exact spec_l01New.mono _ _)
   |(with_reducible exact LeO.refl _)
   |(with_reducible exact LeO.none _)
   |(with_reducible refine LeO.ite ?_ ?_)
   |(with_reducible refine LeO.bind ?_ (fun _ => ?_))
   |exact ih0 _ _ _ _ _ _
   |exact ih1 _ _ _ _ _ _ _
   |exact ih2 _ _ _ _ _
   |exact spec_l01Long.mono _ _ _
   |exact spec_l01New.mono _ _
   |exact LeO.none _
   |refine LeO.ite ?_ ?_
   |refine LeO.bind ?_ (fun _ => ?_)
set_option maxHeartbeats 8000000 in
set_option maxRecDepth 100000 in
theorem spec_DrawTalk.calls (k : Nat) (A0 : Option Addr) (c0 : Nat) (l0 : List Int) (r1 : List ByteArray) (r2 : List Int) (w : World) (hr0 : Kd.C (Kd.int .u8) w A0 l0.length l0) (hc0 : l0.length ≤ c0) (h : spec_DrawTalk.f k l0 = some (r1,r2)) :
   Calls Try.prog 33 #[.slice A0 l0.length c0] w fun e w' => ∃ v0_ v1_ : Value,e = .returned (.tuple #[v0_,v1_]) ∧ Kd.R Kd.string 9 w' w.heap.size (fun _ => True) v0_ r1 ∧ Kd.R (Kd.int .i64) 3 w' w.heap.size (fun _ => True) v1_ r2 ∧ Below w.heap.size w w' := by
  have HR0 := zA hr0
  have HC0 := zA hc0
  clear hr0 hc0
  have HB := zA (Below.refl w.heap.size w)
  have H : ((spec_l01New.f k l0).bind fun bt134 => (spec_DrawTalk.l0 k l0 (([] : List ByteArray)) 0 bt134.1 bt134.2.1 bt134.2.2)) = some (r1,r2) := h
  clear h
  replace H := Option.bind_eq_some_iff.mp H
  obtain ⟨⟨t134,t135,t136⟩,A20,H⟩ := H
  replace H : (spec_DrawTalk.l0 k l0 (([] : List ByteArray)) 0 t134 t135 t136) = some (r1,r2) := H
  have A2 := zA A20
  clear A20
  obtain ⟨y138,hy138⟩ : ∃ y_ : List ByteArray,y_ = (([] : List ByteArray)) := ⟨_,rfl⟩
  replace H : (spec_DrawTalk.l0 k l0 y138 0 t134 t135 t136) = some (r1,r2) := by first | (rw [hy138]; with_reducible exact H) | (have H2_ := (Option.bind_some _ _).symm.trans H; rw [hy138]; with_reducible exact H2_) | (have H2_ := (Option.bind_some _ _).symm.trans H; with_reducible exact H2_)|with_reducible exact H | (rw [hy138]; exact H)|exact H
  have Ny138 := zA hy138
  clear hy138
  have H' := zA H
  clear H
  go_enter Try.func33,Try.ntmps33
  go_wp2_with (first | ((with_reducible refine gate_callee (f := 47) rfl ?_); refine goesL_ (some 10) rfl rfl Try.func47 (by kernel_rfl) rfl #[.slice A0 l0.length c0] rfl (by (try simp only [List.map_toArray,List.map_cons,List.map_nil]); first | done|rfl|(simp only [List.length_drop,List.length_take]; rfl)) ?_; (with_reducible refine (spec_l01New.calls k _ _ l0 t134 t135 t136 w _ ?side1 ?side2 ?side3 A2.out).mono ?_); (case side1 => repeat (first|(with_reducible first|exact HB.out|apply zD|apply zF|apply zE)|exact HB.out)); (case side2 => exact HR0.out); (case side3 => exact HC0.out); rintro e w3 ⟨g137,rfl,hi,hb,hb2⟩; refine ⟨_,rfl,?_⟩; have n0_ := zA (hb); have n1_ := zA (hi); clear HB; have HB := n0_; have HI137 := n1_; clear n0_ n1_) | ((with_reducible refine gate_dst (N := 11) rfl ?_); refine Kd.R_lit Kd.string _ 9 ?hg (N := 11) ?hd (xs := ([] : List ByteArray)) (inner := []) (ok := fun _ => True) (okp := fun _ => True) ?hr ?hp (fun _ hk => hk) trivial (Below.refl _ _) (Nat.le_refl _) (by simp) ?_; (case hd => rfl); (case hg => rfl); (case hr => first | (go_simp; done) | (go_simp; rfl)); (case hp => exact (Reps.none _ _)); intro v139 w4 ho5 hb hg_ hnew_; clear hg_ hnew_; (first | rw [← Ny138.out] at ho5|(simp only [Int.reduceToNat] at ho5; rw [← Ny138.out] at ho5)); have n0_ := zA (Kd.R_lower ho5 (below_size (by repeat (first|(with_reducible first|exact HB.out|apply zD|apply zF|apply zE|refine zC ?_ (IsS81.ge HI137.out))|exact HB.out)))); have n1_ := zA (IsS81.below (by repeat (first|(with_reducible first|exact HI137.out|apply IsS81.alloc|apply IsS81.drewN|apply IsS81.drew|apply IsS81.set_1|apply IsS81.set_2)|exact HI137.out)) hb); have n2_ := zA (below_step (by repeat (first|(with_reducible first|exact HB.out|apply zD|apply zF|apply zE|refine zC ?_ (IsS81.ge HI137.out))|exact HB.out)) hb); clear HI137 HB; have HO140 := n0_; have HI137 := n1_; have HB := n2_; clear n0_ n1_ n2_ hb ho5))
  go_loopg [5,6] k (fun kq v5 v6 w' => ∃ (x5_1 : List ByteArray) (x6_1 : Int) (x138001_1 : Int) (x138002_1 : Int),v6 = .int .i64 x6_1 ∧ Aside0 (spec_DrawTalk.l0 kq l0 x5_1 x6_1 t134 x138001_1 x138002_1 = some (r1,r2)) ∧ Aside0 (kq ≤ k) ∧ Aside0 (Kd.R Kd.string 9 w' w.heap.size (fun _ => True) v5 x5_1) ∧ Aside0 (IsS81 w w' g137 t134 x138001_1 x138002_1) ∧ Aside0 (Below w.heap.size w w'))
  case atStart => exact ⟨(y138),(0),(t135),(t136),(by first|rfl|(simp; done)|(simp [*]; done)),H',⟨Nat.le_refl _⟩,⟨(rrA4 HO140.out)⟩,⟨by repeat (first|(with_reducible first|exact HI137.out|apply IsS81.alloc|apply IsS81.drewN|apply IsS81.drew|apply IsS81.set_1|apply IsS81.set_2)|exact HI137.out)⟩,⟨by repeat (first|(with_reducible first|exact HB.out|apply zD|apply zF|apply zE|refine zC ?_ (IsS81.ge HI137.out))|exact HB.out)⟩⟩
  case round =>
   clear H'
   obtain ⟨x5_1,x6_1,x138001_1,x138002_1,rfl,HA,HK1,HO_5,HI137,HB⟩ := hrel
   cases gk with
   | zero => exact absurd HA.out (by simp [spec_DrawTalk.l0])
   | succ k1 =>
    have H := HA.out
    clear HA
    simp only [spec_DrawTalk.l0] at H
    replace H := Option.bind_eq_some_iff.mp H
    obtain ⟨⟨t141,t142,t143⟩,A60,H⟩ := H
    replace H : (if x6_1 < t141 then ((spec_l03Name.f t134 t142 t143).bind fun bt144 => (if x5_1.length < 8796093022208 then (spec_DrawTalk.l0 k1 l0 (x5_1 ++ [bt144.1]) (wrap64 (x6_1 + 1)) t134 bt144.2.1 bt144.2.2) else (none))) else (spec_DrawTalk.l1 k1 l0 x5_1 (([] : List Int)) 0 t134 t142 t143)) = some (r1,r2) := H
    have A6 := zA A60
    clear A60
    by_cases c7 : x6_1 < t141
    ·
     rw [if_pos c7] at H
     have c7b0 : decide (x6_1 < t141) = true := decide_eq_true c7
     clear c7
     replace H := Option.bind_eq_some_iff.mp H
     obtain ⟨⟨t144,t145,t146⟩,A80,H⟩ := H
     replace H : (if x5_1.length < 8796093022208 then (spec_DrawTalk.l0 k1 l0 (x5_1 ++ [t144]) (wrap64 (x6_1 + 1)) t134 t145 t146) else (none)) = some (r1,r2) := H
     have A8 := zA A80
     clear A80
     by_cases c9 : x5_1.length < 8796093022208
     ·
      rw [if_pos c9] at H
      have LMc9 := zA c9
      clear c9
      obtain ⟨y147,hy147⟩ : ∃ y_ : List ByteArray,y_ = (x5_1 ++ [t144]) := ⟨_,rfl⟩
      replace H : (spec_DrawTalk.l0 k1 l0 y147 (wrap64 (x6_1 + 1)) t134 t145 t146) = some (r1,r2) := by first | (rw [hy147]; with_reducible exact H) | (have H2_ := (Option.bind_some _ _).symm.trans H; rw [hy147]; with_reducible exact H2_) | (have H2_ := (Option.bind_some _ _).symm.trans H; with_reducible exact H2_)|with_reducible exact H | (rw [hy147]; exact H)|exact H
      have Ny147 := zA hy147
      clear hy147
      have H' := zA H
      clear H
      go_wp2_with (first | ((with_reducible refine gate_callee (f := 49) rfl ?_); refine goesL_ (some 14) rfl rfl Try.func49 (by kernel_rfl) rfl #[.pointer (some ⟨g137,0,none⟩),.int .i64 9] rfl (by (try simp only [List.map_toArray,List.map_cons,List.map_nil]); first | done|rfl|(simp only [List.length_drop,List.length_take]; rfl)) ?_; (with_reducible refine (spec_l01Below.calls g137 t134 x138001_1 x138002_1 9 t141 t142 t143 w _ ?side1 ?side2 A6.out).mono ?_); (case side1 => repeat (first|(with_reducible first|exact HI137.out|apply IsS81.alloc|apply IsS81.drewN|apply IsS81.drew|apply IsS81.set_1|apply IsS81.set_2)|exact HI137.out)); (case side2 => repeat (first|(with_reducible first|exact HB.out|apply zD|apply zF|apply zE|refine zC ?_ (IsS81.ge HI137.out))|exact HB.out)); rintro e w10 ⟨rfl,hi,hb,hk⟩; refine ⟨_,rfl,?_⟩; have n0_ := zA (zB (Kd.R_keep (IsS81.apart (show IsS81 w _ g137 t134 x138001_1 x138002_1 from by repeat (first|(with_reducible first|exact HI137.out|apply IsS81.alloc|apply IsS81.drewN|apply IsS81.drew|apply IsS81.set_1|apply IsS81.set_2)|exact HI137.out)) (rrA4 HO_5.out) (by decide)) hk (fun _ h => h.2)) (fun _ h => h.1)); have n1_ := zA (hb); have n2_ := zA (hi); clear HO_5 HB HI137; have HO_5 := n0_; have HB := n1_; have HI137 := n2_; clear n0_ n1_ n2_) | ((with_reducible refine gate_callee (f := 50) rfl ?_); refine goesL_ (some 20) rfl rfl Try.func50 (by kernel_rfl) rfl #[.pointer (some ⟨g137,0,none⟩)] rfl (by (try simp only [List.map_toArray,List.map_cons,List.map_nil]); first | done|rfl|(simp only [List.length_drop,List.length_take]; rfl)) ?_; (with_reducible refine (spec_l03Name.calls g137 t134 t142 t143 t144 t145 t146 w _ ?side1 ?side2 A8.out).mono ?_); (case side1 => repeat (first|(with_reducible first|exact HI137.out|apply IsS81.alloc|apply IsS81.drewN|apply IsS81.drew|apply IsS81.set_1|apply IsS81.set_2)|exact HI137.out)); (case side2 => repeat (first|(with_reducible first|exact HB.out|apply zD|apply zF|apply zE|refine zC ?_ (IsS81.ge HI137.out))|exact HB.out)); rintro e w11 ⟨rfl,hi,hb,hk⟩; refine ⟨_,rfl,?_⟩; have n0_ := zA (zB (Kd.R_keep (IsS81.apart (show IsS81 w _ g137 t134 t142 t143 from by repeat (first|(with_reducible first|exact HI137.out|apply IsS81.alloc|apply IsS81.drewN|apply IsS81.drew|apply IsS81.set_1|apply IsS81.set_2)|exact HI137.out)) (rrA4 HO_5.out) (by decide)) hk (fun _ h => h.2)) (fun _ h => h.1)); have n1_ := zA (hb); have n2_ := zA (hi); clear HO_5 HB HI137; have HO_5 := n0_; have HB := n1_; have HI137 := n2_; clear n0_ n1_ n2_) | ((with_reducible refine gate_builtin (b := .append) (xs := #[.tmp 18,.tmp 21]) rfl ?_); at_builtin; refine Kd.R_append Kd.string (w0 := w) w.heap.size rfl (.tmp 18) (.tmp 21) 22 9 (.string ⟨#[]⟩) 16 rfl Try.underlying22 info9 rfl (by decide) (by omega) u5 x5_1 t144 [.string t144] (fun _ => True) (fun _ => False) rfl rfl ?aP (fun _ hk => hk.elim) ?aF ?aO ?aB ?aS ?aL ?_; (case aP => exact rfl); (case aB => exact (by repeat (first|(with_reducible first|exact HB.out|apply zD|apply zF|apply zE|refine zC ?_ (IsS81.ge HI137.out))|exact HB.out))); (case aF => exact (fun _ _ => trivial)); (case aO => exact (rrA4 HO_5.out)); (case aS => exact (below_size (by repeat (first|(with_reducible first|exact HB.out|apply zD|apply zF|apply zE|refine zC ?_ (IsS81.ge HI137.out))|exact HB.out)))); (case aL => have := LMc9.out; omega); intro v148 w12 ho hb hg hat; rw [← Ny147.out] at ho; have n0_ := zA (IsS81.grown (by repeat (first|(with_reducible first|exact HI137.out|apply IsS81.alloc|apply IsS81.drewN|apply IsS81.drew|apply IsS81.set_1|apply IsS81.set_2)|exact HI137.out)) hg (IsS81.own_ne HI137.out HO_5.out (by decide))); have n1_ := zA (hb); have n2_ := zA (ho); clear HI137 HB HO_5; have HI137 := n0_; have HB := n1_; have HO149 := n2_; clear n0_ n1_ n2_ ho hb hg hat))
      go_roundg k1
      case measure => have := HK1.out; omega
      case rel => exact ⟨(y147),(wrap64 (x6_1 + 1)),(t145),(t146),(by first|rfl|(simp; done)|(simp [*]; done)),H',⟨by have := HK1.out; omega⟩,⟨(rrA4 HO149.out)⟩,⟨by repeat (first|(with_reducible first|exact HI137.out|apply IsS81.alloc|apply IsS81.drewN|apply IsS81.drew|apply IsS81.set_1|apply IsS81.set_2)|exact HI137.out)⟩,⟨by repeat (first|(with_reducible first|exact HB.out|apply zD|apply zF|apply zE|refine zC ?_ (IsS81.ge HI137.out))|exact HB.out)⟩⟩
     ·
      rw [if_neg c9] at H
      exact absurd H (by simp)
    ·
     rw [if_neg c7] at H
     have c7b0 : decide (x6_1 < t141) = false := decide_eq_false c7
     clear c7
     obtain ⟨y150,hy150⟩ : ∃ y_ : List Int,y_ = (([] : List Int)) := ⟨_,rfl⟩
     replace H : (spec_DrawTalk.l1 k1 l0 x5_1 y150 0 t134 t142 t143) = some (r1,r2) := by first | (rw [hy150]; with_reducible exact H) | (have H2_ := (Option.bind_some _ _).symm.trans H; rw [hy150]; with_reducible exact H2_) | (have H2_ := (Option.bind_some _ _).symm.trans H; with_reducible exact H2_)|with_reducible exact H | (rw [hy150]; exact H)|exact H
     have Ny150 := zA hy150
     clear hy150
     have H' := zA H
     clear H
     go_wp2_with (first | ((with_reducible refine gate_callee (f := 49) rfl ?_); refine goesL_ (some 14) rfl rfl Try.func49 (by kernel_rfl) rfl #[.pointer (some ⟨g137,0,none⟩),.int .i64 9] rfl (by (try simp only [List.map_toArray,List.map_cons,List.map_nil]); first | done|rfl|(simp only [List.length_drop,List.length_take]; rfl)) ?_; (with_reducible refine (spec_l01Below.calls g137 t134 x138001_1 x138002_1 9 t141 t142 t143 w _ ?side1 ?side2 A6.out).mono ?_); (case side1 => repeat (first|(with_reducible first|exact HI137.out|apply IsS81.alloc|apply IsS81.drewN|apply IsS81.drew|apply IsS81.set_1|apply IsS81.set_2)|exact HI137.out)); (case side2 => repeat (first|(with_reducible first|exact HB.out|apply zD|apply zF|apply zE|refine zC ?_ (IsS81.ge HI137.out))|exact HB.out)); rintro e w13 ⟨rfl,hi,hb,hk⟩; refine ⟨_,rfl,?_⟩; have n0_ := zA (zB (Kd.R_keep (IsS81.apart (show IsS81 w _ g137 t134 x138001_1 x138002_1 from by repeat (first|(with_reducible first|exact HI137.out|apply IsS81.alloc|apply IsS81.drewN|apply IsS81.drew|apply IsS81.set_1|apply IsS81.set_2)|exact HI137.out)) (rrA4 HO_5.out) (by decide)) hk (fun _ h => h.2)) (fun _ h => h.1)); have n1_ := zA (hb); have n2_ := zA (hi); clear HO_5 HB HI137; have HO_5 := n0_; have HB := n1_; have HI137 := n2_; clear n0_ n1_ n2_) | ((with_reducible refine gate_dst (N := 23) rfl ?_); refine Kd.R_lit (Kd.int .i64) _ 3 ?hg (N := 23) ?hd (xs := ([] : List Int)) (inner := []) (ok := fun _ => True) (okp := fun _ => True) ?hr ?hp (fun _ hk => hk) trivial (Below.refl _ _) (Nat.le_refl _) (by simp) ?_; (case hd => rfl); (case hg => rfl); (case hr => first | (go_simp; done) | (go_simp; rfl)); (case hp => exact (Reps.none _ _)); intro v151 w14 ho15 hb hg_ hnew_; clear hg_ hnew_; (first | rw [← Ny150.out] at ho15|(simp only [Int.reduceToNat] at ho15; rw [← Ny150.out] at ho15)); have n0_ := zA (Kd.R_below (rrA4 HO_5.out) hb); have n1_ := zA (Kd.R_lower ho15 (below_size (by repeat (first|(with_reducible first|exact HB.out|apply zD|apply zF|apply zE|refine zC ?_ (IsS81.ge HI137.out))|exact HB.out)))); have n2_ := zA (IsS81.below (by repeat (first|(with_reducible first|exact HI137.out|apply IsS81.alloc|apply IsS81.drewN|apply IsS81.drew|apply IsS81.set_1|apply IsS81.set_2)|exact HI137.out)) hb); have n3_ := zA (below_step (by repeat (first|(with_reducible first|exact HB.out|apply zD|apply zF|apply zE|refine zC ?_ (IsS81.ge HI137.out))|exact HB.out)) hb); clear HO_5 HI137 HB; have HO_5 := n0_; have HO152 := n1_; have HI137 := n2_; have HB := n3_; clear n0_ n1_ n2_ n3_ hb ho15))
     go_loopg [7,8] k1 (fun kq v7 v8 w' => ∃ (x7_2 : List Int) (x8_2 : Int) (x138001_2 : Int) (x138002_2 : Int),v8 = .int .i64 x8_2 ∧ Aside0 (spec_DrawTalk.l1 kq l0 x5_1 x7_2 x8_2 t134 x138001_2 x138002_2 = some (r1,r2)) ∧ Aside0 (kq ≤ k1) ∧ Aside0 (Kd.R Kd.string 9 w' w.heap.size (fun _ => True) u5 x5_1) ∧ Aside0 (Kd.R (Kd.int .i64) 3 w' w.heap.size (fun _ => True) v7 x7_2) ∧ Aside0 (IsS81 w w' g137 t134 x138001_2 x138002_2) ∧ Aside0 (Below w.heap.size w w'))
     case atStart => exact ⟨(y150),(0),(t142),(t143),(by first|rfl|(simp; done)|(simp [*]; done)),H',⟨Nat.le_refl _⟩,⟨(rrA4 HO_5.out)⟩,⟨(rrA4 HO152.out)⟩,⟨by repeat (first|(with_reducible first|exact HI137.out|apply IsS81.alloc|apply IsS81.drewN|apply IsS81.drew|apply IsS81.set_1|apply IsS81.set_2)|exact HI137.out)⟩,⟨by repeat (first|(with_reducible first|exact HB.out|apply zD|apply zF|apply zE|refine zC ?_ (IsS81.ge HI137.out))|exact HB.out)⟩⟩
     case round =>
      clear H'
      obtain ⟨x7_2,x8_2,x138001_2,x138002_2,rfl,HA,HK2,HO_5,HO_7,HI137,HB⟩ := hrel
      cases gk with
      | zero => exact absurd HA.out (by simp [spec_DrawTalk.l1])
      | succ k2 =>
       have H := HA.out
       clear HA
       simp only [spec_DrawTalk.l1] at H
       replace H := Option.bind_eq_some_iff.mp H
       obtain ⟨⟨t153,t154,t155⟩,A160,H⟩ := H
       replace H : (if x8_2 < (wrap64 (t153 + (Int.tmod (wrap64 ((l0.length : Int) / 4)) 100))) then ((spec_l01Below.f t134 t154 t155 12).bind fun bt156 => (if x7_2.length < 17592186044416 then (spec_DrawTalk.l1 k2 l0 x5_1 (x7_2 ++ [bt156.1]) (wrap64 (x8_2 + 1)) t134 bt156.2.1 bt156.2.2) else (none))) else ((spec_l01Below.f t134 t154 t155 20).bind fun bt162 => (if bt162.1 = 0 then (if x7_2.length < 17592186044416 then (some (x5_1,(x7_2 ++ [(-1)]))) else (none)) else (if bt162.1 = 1 then ((spec_l01Long.f k2 61 65).bind fun t168 => (if x5_1.length < 8796093022208 then (some ((x5_1 ++ [t168]),x7_2)) else (none))) else (if bt162.1 = 2 then (spec_DrawTalk.l2 k2 x5_1 x7_2 t134 bt162.2.1 bt162.2.2) else (some (x5_1,x7_2))))))) = some (r1,r2) := H
       have A16 := zA A160
       clear A160
       by_cases c17 : x8_2 < (wrap64 (t153 + (Int.tmod (wrap64 ((l0.length : Int) / 4)) 100)))
       ·
        rw [if_pos c17] at H
        have c17b0 : decide (x8_2 < (wrap64 (t153 + (Int.tmod (wrap64 ((l0.length : Int) / 4)) 100)))) = true := decide_eq_true c17
        clear c17
        replace H := Option.bind_eq_some_iff.mp H
        obtain ⟨⟨t156,t157,t158⟩,A180,H⟩ := H
        replace H : (if x7_2.length < 17592186044416 then (spec_DrawTalk.l1 k2 l0 x5_1 (x7_2 ++ [t156]) (wrap64 (x8_2 + 1)) t134 t157 t158) else (none)) = some (r1,r2) := H
        have A18 := zA A180
        clear A180
        by_cases c19 : x7_2.length < 17592186044416
        ·
         rw [if_pos c19] at H
         have LMc19 := zA c19
         clear c19
         obtain ⟨y159,hy159⟩ : ∃ y_ : List Int,y_ = (x7_2 ++ [t156]) := ⟨_,rfl⟩
         replace H : (spec_DrawTalk.l1 k2 l0 x5_1 y159 (wrap64 (x8_2 + 1)) t134 t157 t158) = some (r1,r2) := by first | (rw [hy159]; with_reducible exact H) | (have H2_ := (Option.bind_some _ _).symm.trans H; rw [hy159]; with_reducible exact H2_) | (have H2_ := (Option.bind_some _ _).symm.trans H; with_reducible exact H2_)|with_reducible exact H | (rw [hy159]; exact H)|exact H
         have Ny159 := zA hy159
         clear hy159
         have H' := zA H
         clear H
         go_wp2_with (first | ((with_reducible refine gate_callee (f := 49) rfl ?_); refine goesL_ (some 26) rfl rfl Try.func49 (by kernel_rfl) rfl #[.pointer (some ⟨g137,0,none⟩),.int .i64 40] rfl (by (try simp only [List.map_toArray,List.map_cons,List.map_nil]); first | done|rfl|(simp only [List.length_drop,List.length_take]; rfl)) ?_; (with_reducible refine (spec_l01Below.calls g137 t134 x138001_2 x138002_2 40 t153 t154 t155 w _ ?side1 ?side2 A16.out).mono ?_); (case side1 => repeat (first|(with_reducible first|exact HI137.out|apply IsS81.alloc|apply IsS81.drewN|apply IsS81.drew|apply IsS81.set_1|apply IsS81.set_2)|exact HI137.out)); (case side2 => repeat (first|(with_reducible first|exact HB.out|apply zD|apply zF|apply zE|refine zC ?_ (IsS81.ge HI137.out))|exact HB.out)); rintro e w20 ⟨rfl,hi,hb,hk⟩; refine ⟨_,rfl,?_⟩; have n0_ := zA (zB (Kd.R_keep (IsS81.apart (show IsS81 w _ g137 t134 x138001_2 x138002_2 from by repeat (first|(with_reducible first|exact HI137.out|apply IsS81.alloc|apply IsS81.drewN|apply IsS81.drew|apply IsS81.set_1|apply IsS81.set_2)|exact HI137.out)) (rrA4 HO_5.out) (by decide)) hk (fun _ h => h.2)) (fun _ h => h.1)); have n1_ := zA (zB (Kd.R_keep (IsS81.apart (show IsS81 w _ g137 t134 x138001_2 x138002_2 from by repeat (first|(with_reducible first|exact HI137.out|apply IsS81.alloc|apply IsS81.drewN|apply IsS81.drew|apply IsS81.set_1|apply IsS81.set_2)|exact HI137.out)) (rrA4 HO_7.out) (by decide)) hk (fun _ h => h.2)) (fun _ h => h.1)); have n2_ := zA (hb); have n3_ := zA (hi); clear HO_5 HO_7 HB HI137; have HO_5 := n0_; have HO_7 := n1_; have HB := n2_; have HI137 := n3_; clear n0_ n1_ n2_ n3_) | ((with_reducible refine gate_callee (f := 49) rfl ?_); refine goesL_ (some 37) rfl rfl Try.func49 (by kernel_rfl) rfl #[.pointer (some ⟨g137,0,none⟩),.int .i64 12] rfl (by (try simp only [List.map_toArray,List.map_cons,List.map_nil]); first | done|rfl|(simp only [List.length_drop,List.length_take]; rfl)) ?_; (with_reducible refine (spec_l01Below.calls g137 t134 t154 t155 12 t156 t157 t158 w _ ?side1 ?side2 A18.out).mono ?_); (case side1 => repeat (first|(with_reducible first|exact HI137.out|apply IsS81.alloc|apply IsS81.drewN|apply IsS81.drew|apply IsS81.set_1|apply IsS81.set_2)|exact HI137.out)); (case side2 => repeat (first|(with_reducible first|exact HB.out|apply zD|apply zF|apply zE|refine zC ?_ (IsS81.ge HI137.out))|exact HB.out)); rintro e w21 ⟨rfl,hi,hb,hk⟩; refine ⟨_,rfl,?_⟩; have n0_ := zA (zB (Kd.R_keep (IsS81.apart (show IsS81 w _ g137 t134 t154 t155 from by repeat (first|(with_reducible first|exact HI137.out|apply IsS81.alloc|apply IsS81.drewN|apply IsS81.drew|apply IsS81.set_1|apply IsS81.set_2)|exact HI137.out)) (rrA4 HO_5.out) (by decide)) hk (fun _ h => h.2)) (fun _ h => h.1)); have n1_ := zA (zB (Kd.R_keep (IsS81.apart (show IsS81 w _ g137 t134 t154 t155 from by repeat (first|(with_reducible first|exact HI137.out|apply IsS81.alloc|apply IsS81.drewN|apply IsS81.drew|apply IsS81.set_1|apply IsS81.set_2)|exact HI137.out)) (rrA4 HO_7.out) (by decide)) hk (fun _ h => h.2)) (fun _ h => h.1)); have n2_ := zA (hb); have n3_ := zA (hi); clear HO_5 HO_7 HB HI137; have HO_5 := n0_; have HO_7 := n1_; have HB := n2_; have HI137 := n3_; clear n0_ n1_ n2_ n3_) | ((with_reducible refine gate_builtin (b := .append) (xs := #[.tmp 35,.tmp 38]) rfl ?_); at_builtin; refine Kd.R_append (Kd.int .i64) (w0 := w) w.heap.size rfl (.tmp 35) (.tmp 38) 52 3 (.int .i64 0) 8 rfl Try.underlying52 info3 rfl (by decide) (by omega) u7 x7_2 t156 [.int .i64 t156] (fun _ => True) (fun _ => False) rfl rfl ?aP (fun _ hk => hk.elim) ?aF ?aO ?aB ?aS ?aL ?_; (case aP => exact rfl); (case aB => exact (by repeat (first|(with_reducible first|exact HB.out|apply zD|apply zF|apply zE|refine zC ?_ (IsS81.ge HI137.out))|exact HB.out))); (case aF => exact (fun _ _ => trivial)); (case aO => exact (rrA4 HO_7.out)); (case aS => exact (below_size (by repeat (first|(with_reducible first|exact HB.out|apply zD|apply zF|apply zE|refine zC ?_ (IsS81.ge HI137.out))|exact HB.out)))); (case aL => have := LMc19.out; omega); intro v160 w22 ho hb hg hat; rw [← Ny159.out] at ho; have n0_ := zA (Kd.R_over' (rrA4 HO_5.out) (Kd.R_typed (rrA4 HO_7.out)) (by decide) hg); have n1_ := zA (IsS81.grown (by repeat (first|(with_reducible first|exact HI137.out|apply IsS81.alloc|apply IsS81.drewN|apply IsS81.drew|apply IsS81.set_1|apply IsS81.set_2)|exact HI137.out)) hg (IsS81.own_ne HI137.out HO_7.out (by decide))); have n2_ := zA (hb); have n3_ := zA (ho); clear HO_5 HI137 HB HO_7; have HO_5 := n0_; have HI137 := n1_; have HB := n2_; have HO161 := n3_; clear n0_ n1_ n2_ n3_ ho hb hg hat))
         go_roundg k2
         case measure => have := HK1.out; have := HK2.out; omega
         case rel => exact ⟨(y159),(wrap64 (x8_2 + 1)),(t157),(t158),(by first|rfl|(simp; done)|(simp [*]; done)),H',⟨by have := HK1.out; have := HK2.out; omega⟩,⟨(rrA4 HO_5.out)⟩,⟨(rrA4 HO161.out)⟩,⟨by repeat (first|(with_reducible first|exact HI137.out|apply IsS81.alloc|apply IsS81.drewN|apply IsS81.drew|apply IsS81.set_1|apply IsS81.set_2)|exact HI137.out)⟩,⟨by repeat (first|(with_reducible first|exact HB.out|apply zD|apply zF|apply zE|refine zC ?_ (IsS81.ge HI137.out))|exact HB.out)⟩⟩
        ·
         rw [if_neg c19] at H
         exact absurd H (by simp)
       ·
        rw [if_neg c17] at H
        have c17b0 : decide (x8_2 < (wrap64 (t153 + (Int.tmod (wrap64 ((l0.length : Int) / 4)) 100)))) = false := decide_eq_false c17
        clear c17
        replace H := Option.bind_eq_some_iff.mp H
        obtain ⟨⟨t162,t163,t164⟩,A230,H⟩ := H
        replace H : (if t162 = 0 then (if x7_2.length < 17592186044416 then (some (x5_1,(x7_2 ++ [(-1)]))) else (none)) else (if t162 = 1 then ((spec_l01Long.f k2 61 65).bind fun t168 => (if x5_1.length < 8796093022208 then (some ((x5_1 ++ [t168]),x7_2)) else (none))) else (if t162 = 2 then (spec_DrawTalk.l2 k2 x5_1 x7_2 t134 t163 t164) else (some (x5_1,x7_2))))) = some (r1,r2) := H
        have A23 := zA A230
        clear A230
        by_cases c24 : t162 = 0
        ·
         rw [if_pos c24] at H
         have c24b0 : (t162 == 0) = true := beq_iff_eq.mpr c24
         have c24b1 : (t162 != 0) = false := bne_eq_false_iff_eq.mpr c24
         clear c24
         by_cases c25 : x7_2.length < 17592186044416
         ·
          rw [if_pos c25] at H
          have LMc25 := zA c25
          clear c25
          obtain ⟨y165,hy165⟩ : ∃ y_ : List Int,y_ = (x7_2 ++ [(-1)]) := ⟨_,rfl⟩
          replace H : (some (x5_1,y165)) = some (r1,r2) := by first | (rw [hy165]; with_reducible exact H) | (have H2_ := (Option.bind_some _ _).symm.trans H; rw [hy165]; with_reducible exact H2_) | (have H2_ := (Option.bind_some _ _).symm.trans H; with_reducible exact H2_)|with_reducible exact H | (rw [hy165]; exact H)|exact H
          have Ny165 := zA hy165
          clear hy165
          simp only [Option.some.injEq,Prod.mk.injEq] at H
          obtain ⟨rfl,rfl⟩ := H
          go_wp2_with (first | ((with_reducible refine gate_callee (f := 49) rfl ?_); refine goesL_ (some 26) rfl rfl Try.func49 (by kernel_rfl) rfl #[.pointer (some ⟨g137,0,none⟩),.int .i64 40] rfl (by (try simp only [List.map_toArray,List.map_cons,List.map_nil]); first | done|rfl|(simp only [List.length_drop,List.length_take]; rfl)) ?_; (with_reducible refine (spec_l01Below.calls g137 t134 x138001_2 x138002_2 40 t153 t154 t155 w _ ?side1 ?side2 A16.out).mono ?_); (case side1 => repeat (first|(with_reducible first|exact HI137.out|apply IsS81.alloc|apply IsS81.drewN|apply IsS81.drew|apply IsS81.set_1|apply IsS81.set_2)|exact HI137.out)); (case side2 => repeat (first|(with_reducible first|exact HB.out|apply zD|apply zF|apply zE|refine zC ?_ (IsS81.ge HI137.out))|exact HB.out)); rintro e w26 ⟨rfl,hi,hb,hk⟩; refine ⟨_,rfl,?_⟩; have n0_ := zA (zB (Kd.R_keep (IsS81.apart (show IsS81 w _ g137 t134 x138001_2 x138002_2 from by repeat (first|(with_reducible first|exact HI137.out|apply IsS81.alloc|apply IsS81.drewN|apply IsS81.drew|apply IsS81.set_1|apply IsS81.set_2)|exact HI137.out)) (rrA4 HO_5.out) (by decide)) hk (fun _ h => h.2)) (fun _ h => h.1)); have n1_ := zA (zB (Kd.R_keep (IsS81.apart (show IsS81 w _ g137 t134 x138001_2 x138002_2 from by repeat (first|(with_reducible first|exact HI137.out|apply IsS81.alloc|apply IsS81.drewN|apply IsS81.drew|apply IsS81.set_1|apply IsS81.set_2)|exact HI137.out)) (rrA4 HO_7.out) (by decide)) hk (fun _ h => h.2)) (fun _ h => h.1)); have n2_ := zA (hb); have n3_ := zA (hi); clear HO_5 HO_7 HB HI137; have HO_5 := n0_; have HO_7 := n1_; have HB := n2_; have HI137 := n3_; clear n0_ n1_ n2_ n3_) | ((with_reducible refine gate_callee (f := 49) rfl ?_); refine goesL_ (some 41) rfl rfl Try.func49 (by kernel_rfl) rfl #[.pointer (some ⟨g137,0,none⟩),.int .i64 20] rfl (by (try simp only [List.map_toArray,List.map_cons,List.map_nil]); first | done|rfl|(simp only [List.length_drop,List.length_take]; rfl)) ?_; (with_reducible refine (spec_l01Below.calls g137 t134 t154 t155 20 t162 t163 t164 w _ ?side1 ?side2 A23.out).mono ?_); (case side1 => repeat (first|(with_reducible first|exact HI137.out|apply IsS81.alloc|apply IsS81.drewN|apply IsS81.drew|apply IsS81.set_1|apply IsS81.set_2)|exact HI137.out)); (case side2 => repeat (first|(with_reducible first|exact HB.out|apply zD|apply zF|apply zE|refine zC ?_ (IsS81.ge HI137.out))|exact HB.out)); rintro e w27 ⟨rfl,hi,hb,hk⟩; refine ⟨_,rfl,?_⟩; have n0_ := zA (zB (Kd.R_keep (IsS81.apart (show IsS81 w _ g137 t134 t154 t155 from by repeat (first|(with_reducible first|exact HI137.out|apply IsS81.alloc|apply IsS81.drewN|apply IsS81.drew|apply IsS81.set_1|apply IsS81.set_2)|exact HI137.out)) (rrA4 HO_5.out) (by decide)) hk (fun _ h => h.2)) (fun _ h => h.1)); have n1_ := zA (zB (Kd.R_keep (IsS81.apart (show IsS81 w _ g137 t134 t154 t155 from by repeat (first|(with_reducible first|exact HI137.out|apply IsS81.alloc|apply IsS81.drewN|apply IsS81.drew|apply IsS81.set_1|apply IsS81.set_2)|exact HI137.out)) (rrA4 HO_7.out) (by decide)) hk (fun _ h => h.2)) (fun _ h => h.1)); have n2_ := zA (hb); have n3_ := zA (hi); clear HO_5 HO_7 HB HI137; have HO_5 := n0_; have HO_7 := n1_; have HB := n2_; have HI137 := n3_; clear n0_ n1_ n2_ n3_) | ((with_reducible refine gate_builtin (b := .append) (xs := #[.tmp 44,.tmp 45]) rfl ?_); at_builtin; refine Kd.R_append (Kd.int .i64) (w0 := w) w.heap.size rfl (.tmp 44) (.tmp 45) 52 3 (.int .i64 0) 8 rfl Try.underlying52 info3 rfl (by decide) (by omega) u7 x7_2 (-1) [.int .i64 (-1)] (fun _ => True) (fun _ => False) rfl rfl ?aP (fun _ hk => hk.elim) ?aF ?aO ?aB ?aS ?aL ?_; (case aP => exact rfl); (case aB => exact (by repeat (first|(with_reducible first|exact HB.out|apply zD|apply zF|apply zE|refine zC ?_ (IsS81.ge HI137.out))|exact HB.out))); (case aF => exact (fun _ _ => trivial)); (case aO => exact (rrA4 HO_7.out)); (case aS => exact (below_size (by repeat (first|(with_reducible first|exact HB.out|apply zD|apply zF|apply zE|refine zC ?_ (IsS81.ge HI137.out))|exact HB.out)))); (case aL => have := LMc25.out; omega); intro v166 w28 ho hb hg hat; rw [← Ny165.out] at ho; have n0_ := zA (Kd.R_over' (rrA4 HO_5.out) (Kd.R_typed (rrA4 HO_7.out)) (by decide) hg); have n1_ := zA (IsS81.grown (by repeat (first|(with_reducible first|exact HI137.out|apply IsS81.alloc|apply IsS81.drewN|apply IsS81.drew|apply IsS81.set_1|apply IsS81.set_2)|exact HI137.out)) hg (IsS81.own_ne HI137.out HO_7.out (by decide))); have n2_ := zA (hb); have n3_ := zA (ho); clear HO_5 HI137 HB HO_7; have HO_5 := n0_; have HI137 := n1_; have HB := n2_; have HO167 := n3_; clear n0_ n1_ n2_ n3_ ho hb hg hat))
          go_ret2
          exact ⟨_,_,by first|rfl|(simp [errW_none,errW_some] <;> rfl)|(simp [*,errW_none,errW_some] <;> rfl),(rrA4 HO_5.out),(rrA4 HO167.out),by repeat (first|(with_reducible first|exact HB.out|apply zD|apply zF|apply zE|refine zC ?_ (IsS81.ge HI137.out))|exact HB.out)⟩
         ·
          rw [if_neg c25] at H
          exact absurd H (by simp)
        ·
         rw [if_neg c24] at H
         have c24b0 : (t162 == 0) = false := beq_eq_false_iff_ne.mpr c24
         have c24b1 : (t162 != 0) = true := bne_iff_ne.mpr c24
         by_cases c29 : t162 = 1
         ·
          rw [if_pos c29] at H
          have c29b0 : (t162 == 1) = true := beq_iff_eq.mpr c29
          have c29b1 : (t162 != 1) = false := bne_eq_false_iff_eq.mpr c29
          clear c29
          replace H := Option.bind_eq_some_iff.mp H
          obtain ⟨t168,A300,H⟩ := H
          replace H : (if x5_1.length < 8796093022208 then (some ((x5_1 ++ [t168]),x7_2)) else (none)) = some (r1,r2) := H
          have A30 := zA A300
          clear A300
          by_cases c31 : x5_1.length < 8796093022208
          ·
           rw [if_pos c31] at H
           have LMc31 := zA c31
           clear c31
           obtain ⟨y169,hy169⟩ : ∃ y_ : List ByteArray,y_ = (x5_1 ++ [t168]) := ⟨_,rfl⟩
           replace H : (some (y169,x7_2)) = some (r1,r2) := by first | (rw [hy169]; with_reducible exact H) | (have H2_ := (Option.bind_some _ _).symm.trans H; rw [hy169]; with_reducible exact H2_) | (have H2_ := (Option.bind_some _ _).symm.trans H; with_reducible exact H2_)|with_reducible exact H | (rw [hy169]; exact H)|exact H
           have Ny169 := zA hy169
           clear hy169
           simp only [Option.some.injEq,Prod.mk.injEq] at H
           obtain ⟨rfl,rfl⟩ := H
           go_wp2_with (first | ((with_reducible refine gate_callee (f := 49) rfl ?_); refine goesL_ (some 26) rfl rfl Try.func49 (by kernel_rfl) rfl #[.pointer (some ⟨g137,0,none⟩),.int .i64 40] rfl (by (try simp only [List.map_toArray,List.map_cons,List.map_nil]); first | done|rfl|(simp only [List.length_drop,List.length_take]; rfl)) ?_; (with_reducible refine (spec_l01Below.calls g137 t134 x138001_2 x138002_2 40 t153 t154 t155 w _ ?side1 ?side2 A16.out).mono ?_); (case side1 => repeat (first|(with_reducible first|exact HI137.out|apply IsS81.alloc|apply IsS81.drewN|apply IsS81.drew|apply IsS81.set_1|apply IsS81.set_2)|exact HI137.out)); (case side2 => repeat (first|(with_reducible first|exact HB.out|apply zD|apply zF|apply zE|refine zC ?_ (IsS81.ge HI137.out))|exact HB.out)); rintro e w32 ⟨rfl,hi,hb,hk⟩; refine ⟨_,rfl,?_⟩; have n0_ := zA (zB (Kd.R_keep (IsS81.apart (show IsS81 w _ g137 t134 x138001_2 x138002_2 from by repeat (first|(with_reducible first|exact HI137.out|apply IsS81.alloc|apply IsS81.drewN|apply IsS81.drew|apply IsS81.set_1|apply IsS81.set_2)|exact HI137.out)) (rrA4 HO_5.out) (by decide)) hk (fun _ h => h.2)) (fun _ h => h.1)); have n1_ := zA (zB (Kd.R_keep (IsS81.apart (show IsS81 w _ g137 t134 x138001_2 x138002_2 from by repeat (first|(with_reducible first|exact HI137.out|apply IsS81.alloc|apply IsS81.drewN|apply IsS81.drew|apply IsS81.set_1|apply IsS81.set_2)|exact HI137.out)) (rrA4 HO_7.out) (by decide)) hk (fun _ h => h.2)) (fun _ h => h.1)); have n2_ := zA (hb); have n3_ := zA (hi); clear HO_5 HO_7 HB HI137; have HO_5 := n0_; have HO_7 := n1_; have HB := n2_; have HI137 := n3_; clear n0_ n1_ n2_ n3_) | ((with_reducible refine gate_callee (f := 49) rfl ?_); refine goesL_ (some 41) rfl rfl Try.func49 (by kernel_rfl) rfl #[.pointer (some ⟨g137,0,none⟩),.int .i64 20] rfl (by (try simp only [List.map_toArray,List.map_cons,List.map_nil]); first | done|rfl|(simp only [List.length_drop,List.length_take]; rfl)) ?_; (with_reducible refine (spec_l01Below.calls g137 t134 t154 t155 20 t162 t163 t164 w _ ?side1 ?side2 A23.out).mono ?_); (case side1 => repeat (first|(with_reducible first|exact HI137.out|apply IsS81.alloc|apply IsS81.drewN|apply IsS81.drew|apply IsS81.set_1|apply IsS81.set_2)|exact HI137.out)); (case side2 => repeat (first|(with_reducible first|exact HB.out|apply zD|apply zF|apply zE|refine zC ?_ (IsS81.ge HI137.out))|exact HB.out)); rintro e w33 ⟨rfl,hi,hb,hk⟩; refine ⟨_,rfl,?_⟩; have n0_ := zA (zB (Kd.R_keep (IsS81.apart (show IsS81 w _ g137 t134 t154 t155 from by repeat (first|(with_reducible first|exact HI137.out|apply IsS81.alloc|apply IsS81.drewN|apply IsS81.drew|apply IsS81.set_1|apply IsS81.set_2)|exact HI137.out)) (rrA4 HO_5.out) (by decide)) hk (fun _ h => h.2)) (fun _ h => h.1)); have n1_ := zA (zB (Kd.R_keep (IsS81.apart (show IsS81 w _ g137 t134 t154 t155 from by repeat (first|(with_reducible first|exact HI137.out|apply IsS81.alloc|apply IsS81.drewN|apply IsS81.drew|apply IsS81.set_1|apply IsS81.set_2)|exact HI137.out)) (rrA4 HO_7.out) (by decide)) hk (fun _ h => h.2)) (fun _ h => h.1)); have n2_ := zA (hb); have n3_ := zA (hi); clear HO_5 HO_7 HB HI137; have HO_5 := n0_; have HO_7 := n1_; have HB := n2_; have HI137 := n3_; clear n0_ n1_ n2_ n3_) | ((with_reducible refine gate_callee (f := 52) rfl ?_); refine goesL_ (some 50) rfl rfl Try.func52 (by kernel_rfl) rfl #[.int .i64 61,.int .u8 65] rfl (by (try simp only [List.map_toArray,List.map_cons,List.map_nil]); first | done|rfl|(simp only [List.length_drop,List.length_take]; rfl)) ?_; (with_reducible refine (spec_l01Long.calls k2 61 65 t168 _ A30.out).mono ?_); rintro e w34 ⟨rfl,hb⟩; refine ⟨_,rfl,?_⟩; have n0_ := zA (Kd.R_below (rrA4 HO_5.out) hb); have n1_ := zA (Kd.R_below (rrA4 HO_7.out) hb); have n2_ := zA (IsS81.below (by repeat (first|(with_reducible first|exact HI137.out|apply IsS81.alloc|apply IsS81.drewN|apply IsS81.drew|apply IsS81.set_1|apply IsS81.set_2)|exact HI137.out)) hb); have n3_ := zA (below_step (by repeat (first|(with_reducible first|exact HB.out|apply zD|apply zF|apply zE|refine zC ?_ (IsS81.ge HI137.out))|exact HB.out)) hb); clear HO_5 HO_7 HI137 HB; have HO_5 := n0_; have HO_7 := n1_; have HI137 := n2_; have HB := n3_; clear n0_ n1_ n2_ n3_) | ((with_reducible refine gate_builtin (b := .append) (xs := #[.tmp 49,.tmp 51]) rfl ?_); at_builtin; refine Kd.R_append Kd.string (w0 := w) w.heap.size rfl (.tmp 49) (.tmp 51) 22 9 (.string ⟨#[]⟩) 16 rfl Try.underlying22 info9 rfl (by decide) (by omega) u5 x5_1 t168 [.string t168] (fun _ => True) (fun _ => False) rfl rfl ?aP (fun _ hk => hk.elim) ?aF ?aO ?aB ?aS ?aL ?_; (case aP => exact rfl); (case aB => exact (by repeat (first|(with_reducible first|exact HB.out|apply zD|apply zF|apply zE|refine zC ?_ (IsS81.ge HI137.out))|exact HB.out))); (case aF => exact (fun _ _ => trivial)); (case aO => exact (rrA4 HO_5.out)); (case aS => exact (below_size (by repeat (first|(with_reducible first|exact HB.out|apply zD|apply zF|apply zE|refine zC ?_ (IsS81.ge HI137.out))|exact HB.out)))); (case aL => have := LMc31.out; omega); intro v170 w35 ho hb hg hat; rw [← Ny169.out] at ho; have n0_ := zA (Kd.R_over' (rrA4 HO_7.out) (Kd.R_typed (rrA4 HO_5.out)) (by decide) hg); have n1_ := zA (IsS81.grown (by repeat (first|(with_reducible first|exact HI137.out|apply IsS81.alloc|apply IsS81.drewN|apply IsS81.drew|apply IsS81.set_1|apply IsS81.set_2)|exact HI137.out)) hg (IsS81.own_ne HI137.out HO_5.out (by decide))); have n2_ := zA (hb); have n3_ := zA (ho); clear HO_7 HI137 HB HO_5; have HO_7 := n0_; have HI137 := n1_; have HB := n2_; have HO171 := n3_; clear n0_ n1_ n2_ n3_ ho hb hg hat))
           go_ret2
           exact ⟨_,_,by first|rfl|(simp [errW_none,errW_some] <;> rfl)|(simp [*,errW_none,errW_some] <;> rfl),(rrA4 HO171.out),(rrA4 HO_7.out),by repeat (first|(with_reducible first|exact HB.out|apply zD|apply zF|apply zE|refine zC ?_ (IsS81.ge HI137.out))|exact HB.out)⟩
          ·
           rw [if_neg c31] at H
           exact absurd H (by simp)
         ·
          rw [if_neg c29] at H
          have c29b0 : (t162 == 1) = false := beq_eq_false_iff_ne.mpr c29
          have c29b1 : (t162 != 1) = true := bne_iff_ne.mpr c29
          by_cases c36 : t162 = 2
          ·
           rw [if_pos c36] at H
           have c36b0 : (t162 == 2) = true := beq_iff_eq.mpr c36
           have c36b1 : (t162 != 2) = false := bne_eq_false_iff_eq.mpr c36
           clear c36
           have H' := zA H
           clear H
           go_wp2_with (first | ((with_reducible refine gate_callee (f := 49) rfl ?_); refine goesL_ (some 26) rfl rfl Try.func49 (by kernel_rfl) rfl #[.pointer (some ⟨g137,0,none⟩),.int .i64 40] rfl (by (try simp only [List.map_toArray,List.map_cons,List.map_nil]); first | done|rfl|(simp only [List.length_drop,List.length_take]; rfl)) ?_; (with_reducible refine (spec_l01Below.calls g137 t134 x138001_2 x138002_2 40 t153 t154 t155 w _ ?side1 ?side2 A16.out).mono ?_); (case side1 => repeat (first|(with_reducible first|exact HI137.out|apply IsS81.alloc|apply IsS81.drewN|apply IsS81.drew|apply IsS81.set_1|apply IsS81.set_2)|exact HI137.out)); (case side2 => repeat (first|(with_reducible first|exact HB.out|apply zD|apply zF|apply zE|refine zC ?_ (IsS81.ge HI137.out))|exact HB.out)); rintro e w37 ⟨rfl,hi,hb,hk⟩; refine ⟨_,rfl,?_⟩; have n0_ := zA (zB (Kd.R_keep (IsS81.apart (show IsS81 w _ g137 t134 x138001_2 x138002_2 from by repeat (first|(with_reducible first|exact HI137.out|apply IsS81.alloc|apply IsS81.drewN|apply IsS81.drew|apply IsS81.set_1|apply IsS81.set_2)|exact HI137.out)) (rrA4 HO_5.out) (by decide)) hk (fun _ h => h.2)) (fun _ h => h.1)); have n1_ := zA (zB (Kd.R_keep (IsS81.apart (show IsS81 w _ g137 t134 x138001_2 x138002_2 from by repeat (first|(with_reducible first|exact HI137.out|apply IsS81.alloc|apply IsS81.drewN|apply IsS81.drew|apply IsS81.set_1|apply IsS81.set_2)|exact HI137.out)) (rrA4 HO_7.out) (by decide)) hk (fun _ h => h.2)) (fun _ h => h.1)); have n2_ := zA (hb); have n3_ := zA (hi); clear HO_5 HO_7 HB HI137; have HO_5 := n0_; have HO_7 := n1_; have HB := n2_; have HI137 := n3_; clear n0_ n1_ n2_ n3_) | ((with_reducible refine gate_callee (f := 49) rfl ?_); refine goesL_ (some 41) rfl rfl Try.func49 (by kernel_rfl) rfl #[.pointer (some ⟨g137,0,none⟩),.int .i64 20] rfl (by (try simp only [List.map_toArray,List.map_cons,List.map_nil]); first | done|rfl|(simp only [List.length_drop,List.length_take]; rfl)) ?_; (with_reducible refine (spec_l01Below.calls g137 t134 t154 t155 20 t162 t163 t164 w _ ?side1 ?side2 A23.out).mono ?_); (case side1 => repeat (first|(with_reducible first|exact HI137.out|apply IsS81.alloc|apply IsS81.drewN|apply IsS81.drew|apply IsS81.set_1|apply IsS81.set_2)|exact HI137.out)); (case side2 => repeat (first|(with_reducible first|exact HB.out|apply zD|apply zF|apply zE|refine zC ?_ (IsS81.ge HI137.out))|exact HB.out)); rintro e w38 ⟨rfl,hi,hb,hk⟩; refine ⟨_,rfl,?_⟩; have n0_ := zA (zB (Kd.R_keep (IsS81.apart (show IsS81 w _ g137 t134 t154 t155 from by repeat (first|(with_reducible first|exact HI137.out|apply IsS81.alloc|apply IsS81.drewN|apply IsS81.drew|apply IsS81.set_1|apply IsS81.set_2)|exact HI137.out)) (rrA4 HO_5.out) (by decide)) hk (fun _ h => h.2)) (fun _ h => h.1)); have n1_ := zA (zB (Kd.R_keep (IsS81.apart (show IsS81 w _ g137 t134 t154 t155 from by repeat (first|(with_reducible first|exact HI137.out|apply IsS81.alloc|apply IsS81.drewN|apply IsS81.drew|apply IsS81.set_1|apply IsS81.set_2)|exact HI137.out)) (rrA4 HO_7.out) (by decide)) hk (fun _ h => h.2)) (fun _ h => h.1)); have n2_ := zA (hb); have n3_ := zA (hi); clear HO_5 HO_7 HB HI137; have HO_5 := n0_; have HO_7 := n1_; have HB := n2_; have HI137 := n3_; clear n0_ n1_ n2_ n3_))
           go_loopg [5] k2 (fun kq v5 w' => ∃ (x5_3 : List ByteArray) (x138001_3 : Int) (x138002_3 : Int),Aside0 (spec_DrawTalk.l2 kq x5_3 x7_2 t134 x138001_3 x138002_3 = some (r1,r2)) ∧ Aside0 (kq ≤ k2) ∧ Aside0 (Kd.R Kd.string 9 w' w.heap.size (fun _ => True) v5 x5_3) ∧ Aside0 (Kd.R (Kd.int .i64) 3 w' w.heap.size (fun _ => True) u7 x7_2) ∧ Aside0 (IsS81 w w' g137 t134 x138001_3 x138002_3) ∧ Aside0 (Below w.heap.size w w'))
           case atStart => exact ⟨(x5_1),(t163),(t164),H',⟨Nat.le_refl _⟩,⟨(rrA4 HO_5.out)⟩,⟨(rrA4 HO_7.out)⟩,⟨by repeat (first|(with_reducible first|exact HI137.out|apply IsS81.alloc|apply IsS81.drewN|apply IsS81.drew|apply IsS81.set_1|apply IsS81.set_2)|exact HI137.out)⟩,⟨by repeat (first|(with_reducible first|exact HB.out|apply zD|apply zF|apply zE|refine zC ?_ (IsS81.ge HI137.out))|exact HB.out)⟩⟩
           case round =>
            clear H'
            obtain ⟨x5_3,x138001_3,x138002_3,HA,HK3,HO_5,HO_7,HI137,HB⟩ := hrel
            cases gk with
            | zero => exact absurd HA.out (by simp [spec_DrawTalk.l2])
            | succ k3 =>
             have H := HA.out
             clear HA
             simp only [spec_DrawTalk.l2] at H
             replace H := Option.bind_eq_some_iff.mp H
             obtain ⟨⟨t172,t173,t174⟩,A390,H⟩ := H
             replace H : (if (x5_3.length : Int) < (wrap64 (20 + t172)) then (if x5_3.length < 8796093022208 then (spec_DrawTalk.l2 k3 (x5_3 ++ [(⟨#[113]⟩ : ByteArray)]) x7_2 t134 t173 t174) else (none)) else (some (x5_3,x7_2))) = some (r1,r2) := H
             have A39 := zA A390
             clear A390
             by_cases c40 : (x5_3.length : Int) < (wrap64 (20 + t172))
             ·
              rw [if_pos c40] at H
              have c40b0 : decide ((x5_3.length : Int) < (wrap64 (20 + t172))) = true := decide_eq_true c40
              clear c40
              by_cases c41 : x5_3.length < 8796093022208
              ·
               rw [if_pos c41] at H
               have LMc41 := zA c41
               clear c41
               obtain ⟨y175,hy175⟩ : ∃ y_ : List ByteArray,y_ = (x5_3 ++ [(⟨#[113]⟩ : ByteArray)]) := ⟨_,rfl⟩
               replace H : (spec_DrawTalk.l2 k3 y175 x7_2 t134 t173 t174) = some (r1,r2) := by first | (rw [hy175]; with_reducible exact H) | (have H2_ := (Option.bind_some _ _).symm.trans H; rw [hy175]; with_reducible exact H2_) | (have H2_ := (Option.bind_some _ _).symm.trans H; with_reducible exact H2_)|with_reducible exact H | (rw [hy175]; exact H)|exact H
               have Ny175 := zA hy175
               clear hy175
               have H' := zA H
               clear H
               obtain ⟨Ao42,co42,eo42⟩ := Kd.R_slice HO_5.out
               subst eo42
               go_wp2_with (first | ((with_reducible refine gate_callee (f := 49) rfl ?_); refine goesL_ (some 58) rfl rfl Try.func49 (by kernel_rfl) rfl #[.pointer (some ⟨g137,0,none⟩),.int .i64 2] rfl (by (try simp only [List.map_toArray,List.map_cons,List.map_nil]); first | done|rfl|(simp only [List.length_drop,List.length_take]; rfl)) ?_; (with_reducible refine (spec_l01Below.calls g137 t134 x138001_3 x138002_3 2 t172 t173 t174 w _ ?side1 ?side2 A39.out).mono ?_); (case side1 => repeat (first|(with_reducible first|exact HI137.out|apply IsS81.alloc|apply IsS81.drewN|apply IsS81.drew|apply IsS81.set_1|apply IsS81.set_2)|exact HI137.out)); (case side2 => repeat (first|(with_reducible first|exact HB.out|apply zD|apply zF|apply zE|refine zC ?_ (IsS81.ge HI137.out))|exact HB.out)); rintro e w43 ⟨rfl,hi,hb,hk⟩; refine ⟨_,rfl,?_⟩; have n0_ := zA (zB (Kd.R_keep (IsS81.apart (show IsS81 w _ g137 t134 x138001_3 x138002_3 from by repeat (first|(with_reducible first|exact HI137.out|apply IsS81.alloc|apply IsS81.drewN|apply IsS81.drew|apply IsS81.set_1|apply IsS81.set_2)|exact HI137.out)) (rrA4 HO_5.out) (by decide)) hk (fun _ h => h.2)) (fun _ h => h.1)); have n1_ := zA (zB (Kd.R_keep (IsS81.apart (show IsS81 w _ g137 t134 x138001_3 x138002_3 from by repeat (first|(with_reducible first|exact HI137.out|apply IsS81.alloc|apply IsS81.drewN|apply IsS81.drew|apply IsS81.set_1|apply IsS81.set_2)|exact HI137.out)) (rrA4 HO_7.out) (by decide)) hk (fun _ h => h.2)) (fun _ h => h.1)); have n2_ := zA (hb); have n3_ := zA (hi); clear HO_5 HO_7 HB HI137; have HO_5 := n0_; have HO_7 := n1_; have HB := n2_; have HI137 := n3_; clear n0_ n1_ n2_ n3_) | ((with_reducible refine gate_builtin (b := .append) (xs := #[.tmp 61,.tmp 62]) rfl ?_); at_builtin; refine Kd.R_append Kd.string (w0 := w) w.heap.size rfl (.tmp 61) (.tmp 62) 22 9 (.string ⟨#[]⟩) 16 rfl Try.underlying22 info9 rfl (by decide) (by omega) (.slice Ao42 x5_3.length co42) x5_3 (⟨#[113]⟩ : ByteArray) [.string (⟨#[113]⟩ : ByteArray)] (fun _ => True) (fun _ => False) rfl rfl ?aP (fun _ hk => hk.elim) ?aF ?aO ?aB ?aS ?aL ?_; (case aP => exact rfl); (case aB => exact (by repeat (first|(with_reducible first|exact HB.out|apply zD|apply zF|apply zE|refine zC ?_ (IsS81.ge HI137.out))|exact HB.out))); (case aF => exact (fun _ _ => trivial)); (case aO => exact (rrA4 HO_5.out)); (case aS => exact (below_size (by repeat (first|(with_reducible first|exact HB.out|apply zD|apply zF|apply zE|refine zC ?_ (IsS81.ge HI137.out))|exact HB.out)))); (case aL => have := LMc41.out; omega); intro v176 w44 ho hb hg hat; rw [← Ny175.out] at ho; have n0_ := zA (Kd.R_over' (rrA4 HO_7.out) (Kd.R_typed (rrA4 HO_5.out)) (by decide) hg); have n1_ := zA (IsS81.grown (by repeat (first|(with_reducible first|exact HI137.out|apply IsS81.alloc|apply IsS81.drewN|apply IsS81.drew|apply IsS81.set_1|apply IsS81.set_2)|exact HI137.out)) hg (IsS81.own_ne HI137.out HO_5.out (by decide))); have n2_ := zA (hb); have n3_ := zA (ho); clear HO_7 HI137 HB HO_5; have HO_7 := n0_; have HI137 := n1_; have HB := n2_; have HO177 := n3_; clear n0_ n1_ n2_ n3_ ho hb hg hat))
               go_roundg k3
               case measure => have := HK1.out; have := HK2.out; have := HK3.out; omega
               case rel => exact ⟨(y175),(t173),(t174),H',⟨by have := HK1.out; have := HK2.out; have := HK3.out; omega⟩,⟨(rrA4 HO177.out)⟩,⟨(rrA4 HO_7.out)⟩,⟨by repeat (first|(with_reducible first|exact HI137.out|apply IsS81.alloc|apply IsS81.drewN|apply IsS81.drew|apply IsS81.set_1|apply IsS81.set_2)|exact HI137.out)⟩,⟨by repeat (first|(with_reducible first|exact HB.out|apply zD|apply zF|apply zE|refine zC ?_ (IsS81.ge HI137.out))|exact HB.out)⟩⟩
              ·
               rw [if_neg c41] at H
               exact absurd H (by simp)
             ·
              rw [if_neg c40] at H
              have c40b0 : decide ((x5_3.length : Int) < (wrap64 (20 + t172))) = false := decide_eq_false c40
              clear c40
              simp only [Option.some.injEq,Prod.mk.injEq] at H
              obtain ⟨rfl,rfl⟩ := H
              obtain ⟨Ao45,co45,eo45⟩ := Kd.R_slice HO_5.out
              subst eo45
              go_wp2_with (first | ((with_reducible refine gate_callee (f := 49) rfl ?_); refine goesL_ (some 58) rfl rfl Try.func49 (by kernel_rfl) rfl #[.pointer (some ⟨g137,0,none⟩),.int .i64 2] rfl (by (try simp only [List.map_toArray,List.map_cons,List.map_nil]); first | done|rfl|(simp only [List.length_drop,List.length_take]; rfl)) ?_; (with_reducible refine (spec_l01Below.calls g137 t134 x138001_3 x138002_3 2 t172 t173 t174 w _ ?side1 ?side2 A39.out).mono ?_); (case side1 => repeat (first|(with_reducible first|exact HI137.out|apply IsS81.alloc|apply IsS81.drewN|apply IsS81.drew|apply IsS81.set_1|apply IsS81.set_2)|exact HI137.out)); (case side2 => repeat (first|(with_reducible first|exact HB.out|apply zD|apply zF|apply zE|refine zC ?_ (IsS81.ge HI137.out))|exact HB.out)); rintro e w46 ⟨rfl,hi,hb,hk⟩; refine ⟨_,rfl,?_⟩; have n0_ := zA (zB (Kd.R_keep (IsS81.apart (show IsS81 w _ g137 t134 x138001_3 x138002_3 from by repeat (first|(with_reducible first|exact HI137.out|apply IsS81.alloc|apply IsS81.drewN|apply IsS81.drew|apply IsS81.set_1|apply IsS81.set_2)|exact HI137.out)) (rrA4 HO_5.out) (by decide)) hk (fun _ h => h.2)) (fun _ h => h.1)); have n1_ := zA (zB (Kd.R_keep (IsS81.apart (show IsS81 w _ g137 t134 x138001_3 x138002_3 from by repeat (first|(with_reducible first|exact HI137.out|apply IsS81.alloc|apply IsS81.drewN|apply IsS81.drew|apply IsS81.set_1|apply IsS81.set_2)|exact HI137.out)) (rrA4 HO_7.out) (by decide)) hk (fun _ h => h.2)) (fun _ h => h.1)); have n2_ := zA (hb); have n3_ := zA (hi); clear HO_5 HO_7 HB HI137; have HO_5 := n0_; have HO_7 := n1_; have HB := n2_; have HI137 := n3_; clear n0_ n1_ n2_ n3_))
              go_ret2
              exact ⟨_,_,by first|rfl|(simp [errW_none,errW_some] <;> rfl)|(simp [*,errW_none,errW_some] <;> rfl),(rrA4 HO_5.out),(rrA4 HO_7.out),by repeat (first|(with_reducible first|exact HB.out|apply zD|apply zF|apply zE|refine zC ?_ (IsS81.ge HI137.out))|exact HB.out)⟩
          ·
           rw [if_neg c36] at H
           have c36b0 : (t162 == 2) = false := beq_eq_false_iff_ne.mpr c36
           have c36b1 : (t162 != 2) = true := bne_iff_ne.mpr c36
           simp only [Option.some.injEq,Prod.mk.injEq] at H
           obtain ⟨rfl,rfl⟩ := H
           go_wp2_with (first | ((with_reducible refine gate_callee (f := 49) rfl ?_); refine goesL_ (some 26) rfl rfl Try.func49 (by kernel_rfl) rfl #[.pointer (some ⟨g137,0,none⟩),.int .i64 40] rfl (by (try simp only [List.map_toArray,List.map_cons,List.map_nil]); first | done|rfl|(simp only [List.length_drop,List.length_take]; rfl)) ?_; (with_reducible refine (spec_l01Below.calls g137 t134 x138001_2 x138002_2 40 t153 t154 t155 w _ ?side1 ?side2 A16.out).mono ?_); (case side1 => repeat (first|(with_reducible first|exact HI137.out|apply IsS81.alloc|apply IsS81.drewN|apply IsS81.drew|apply IsS81.set_1|apply IsS81.set_2)|exact HI137.out)); (case side2 => repeat (first|(with_reducible first|exact HB.out|apply zD|apply zF|apply zE|refine zC ?_ (IsS81.ge HI137.out))|exact HB.out)); rintro e w47 ⟨rfl,hi,hb,hk⟩; refine ⟨_,rfl,?_⟩; have n0_ := zA (zB (Kd.R_keep (IsS81.apart (show IsS81 w _ g137 t134 x138001_2 x138002_2 from by repeat (first|(with_reducible first|exact HI137.out|apply IsS81.alloc|apply IsS81.drewN|apply IsS81.drew|apply IsS81.set_1|apply IsS81.set_2)|exact HI137.out)) (rrA4 HO_5.out) (by decide)) hk (fun _ h => h.2)) (fun _ h => h.1)); have n1_ := zA (zB (Kd.R_keep (IsS81.apart (show IsS81 w _ g137 t134 x138001_2 x138002_2 from by repeat (first|(with_reducible first|exact HI137.out|apply IsS81.alloc|apply IsS81.drewN|apply IsS81.drew|apply IsS81.set_1|apply IsS81.set_2)|exact HI137.out)) (rrA4 HO_7.out) (by decide)) hk (fun _ h => h.2)) (fun _ h => h.1)); have n2_ := zA (hb); have n3_ := zA (hi); clear HO_5 HO_7 HB HI137; have HO_5 := n0_; have HO_7 := n1_; have HB := n2_; have HI137 := n3_; clear n0_ n1_ n2_ n3_) | ((with_reducible refine gate_callee (f := 49) rfl ?_); refine goesL_ (some 41) rfl rfl Try.func49 (by kernel_rfl) rfl #[.pointer (some ⟨g137,0,none⟩),.int .i64 20] rfl (by (try simp only [List.map_toArray,List.map_cons,List.map_nil]); first | done|rfl|(simp only [List.length_drop,List.length_take]; rfl)) ?_; (with_reducible refine (spec_l01Below.calls g137 t134 t154 t155 20 t162 t163 t164 w _ ?side1 ?side2 A23.out).mono ?_); (case side1 => repeat (first|(with_reducible first|exact HI137.out|apply IsS81.alloc|apply IsS81.drewN|apply IsS81.drew|apply IsS81.set_1|apply IsS81.set_2)|exact HI137.out)); (case side2 => repeat (first|(with_reducible first|exact HB.out|apply zD|apply zF|apply zE|refine zC ?_ (IsS81.ge HI137.out))|exact HB.out)); rintro e w48 ⟨rfl,hi,hb,hk⟩; refine ⟨_,rfl,?_⟩; have n0_ := zA (zB (Kd.R_keep (IsS81.apart (show IsS81 w _ g137 t134 t154 t155 from by repeat (first|(with_reducible first|exact HI137.out|apply IsS81.alloc|apply IsS81.drewN|apply IsS81.drew|apply IsS81.set_1|apply IsS81.set_2)|exact HI137.out)) (rrA4 HO_5.out) (by decide)) hk (fun _ h => h.2)) (fun _ h => h.1)); have n1_ := zA (zB (Kd.R_keep (IsS81.apart (show IsS81 w _ g137 t134 t154 t155 from by repeat (first|(with_reducible first|exact HI137.out|apply IsS81.alloc|apply IsS81.drewN|apply IsS81.drew|apply IsS81.set_1|apply IsS81.set_2)|exact HI137.out)) (rrA4 HO_7.out) (by decide)) hk (fun _ h => h.2)) (fun _ h => h.1)); have n2_ := zA (hb); have n3_ := zA (hi); clear HO_5 HO_7 HB HI137; have HO_5 := n0_; have HO_7 := n1_; have HB := n2_; have HI137 := n3_; clear n0_ n1_ n2_ n3_))
           go_ret2
           exact ⟨_,_,by first|rfl|(simp [errW_none,errW_some] <;> rfl)|(simp [*,errW_none,errW_some] <;> rfl),(rrA4 HO_5.out),(rrA4 HO_7.out),by repeat (first|(with_reducible first|exact HB.out|apply zD|apply zF|apply zE|refine zC ?_ (IsS81.ge HI137.out))|exact HB.out)⟩

end Go.Proofs.Ytlidnobkkgcnlaa.PFnLinks
