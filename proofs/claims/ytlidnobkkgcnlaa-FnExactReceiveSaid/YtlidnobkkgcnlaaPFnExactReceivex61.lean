-- Written by a program out of the translation,for this claim.
import Derived.Test.YtlidnobkkgcnlaaPFnExactReceivex0
import Derived.Test.YtlidnobkkgcnlaaPFnExactReceivex1
import Derived.Test.YtlidnobkkgcnlaaPFnExactReceivex2
import Derived.Test.YtlidnobkkgcnlaaPFnExactReceivex4
import Derived.Test.YtlidnobkkgcnlaaPFnExactReceivex7
import Derived.Test.YtlidnobkkgcnlaaPFnExactReceivex9
import Derived.Test.YtlidnobkkgcnlaaPFnExactReceivex13
import Derived.Test.YtlidnobkkgcnlaaPFnExactReceivex17
import Derived.Test.YtlidnobkkgcnlaaPFnExactReceivex18
import Derived.Test.YtlidnobkkgcnlaaPFnExactReceivex60
namespace Go.Proofs.Ytlidnobkkgcnlaa.PFnExactReceive
open Go.RowKit Go.Proofs.YtlidnobkkgcnlaaW.PrintWords Go.Proofs.YtlidnobkkgcnlaaW.PrintLast Go.Proofs.YtlidnobkkgcnlaaW.PrintMore
attribute [local go_sem] max2_int min2_int max_two min_two max_three min_three max_four min_four   -- for this text's walks alone
set_option linter.unusedVariables false
set_option linter.unusedSimpArgs false
theorem rrA19b {p q : Prop} (h : p) (f : p → q := by (intro h_; (with_reducible repeat (first | apply Kd.R_alloc | apply Kd.R_drewN | apply Kd.R_drew)); exact h_)) : q := f h
theorem rrB19b {p q : Prop} (h : p) (f : p → q := by (intro h_; (with_reducible repeat (first | refine blk_drewN ?_ _ | refine blk_drew ?_ | refine blk_alloc ?_ _)); exact h_)) : q := f h
open Go.Proofs.YtlidnobkkgcnlaaW.PrintWords.Aside0 renaming mk → zA
open Go.Proofs.YtlidnobkkgcnlaaW.PrintWords.Kd renaming R_far → zB
open Go.Proofs.YtlidnobkkgcnlaaW.PrintWords.Kd renaming R_mono → zC
open Go.Proofs.YtlidnobkkgcnlaaW.PrintWords.Kd renaming R_below → zD
open Go.Proofs.YtlidnobkkgcnlaaW.PrintMore.Kd renaming R_told → zE
open Go.Proofs.YtlidnobkkgcnlaaW.PrintWords.Kd renaming R_base → zF
open Go.Proofs.YtlidnobkkgcnlaaW.PrintWords.Kd renaming R_new' → zG
open Go.Proofs.YtlidnobkkgcnlaaW.PrintWords.Kd renaming R_types → zH
open Go.Proofs.YtlidnobkkgcnlaaW.PrintWords.Kd renaming R_reads' → zI
open Go.Proofs.YtlidnobkkgcnlaaW.PrintWords.Kd renaming R_alloc → zJ
open Go.Proofs.YtlidnobkkgcnlaaW.PrintWords.Kd renaming R_drewN → zK
open Go.Proofs.YtlidnobkkgcnlaaW.PrintWords.Kd renaming R_drew → zL
open Go.Proofs.YtlidnobkkgcnlaaW.PrintMore.Kd renaming R_old → zM
open Go.Proofs.YtlidnobkkgcnlaaW.PrintWords renaming below_set → zN
open Go.Proofs.YtlidnobkkgcnlaaW.PrintWords renaming below_alloc → zO
open Go.Proofs.YtlidnobkkgcnlaaW.PrintWords renaming below_drew1 → zP
open Go.Proofs.YtlidnobkkgcnlaaW.PrintWords renaming pw_below_drewN → zQ
open Go.Proofs.YtlidnobkkgcnlaaW.PrintWords renaming blk_drewN → zR
open Go.Proofs.YtlidnobkkgcnlaaW.PrintWords renaming blk_alloc → zS
open Go.Proofs.YtlidnobkkgcnlaaW.PrintWords renaming blk_drew → zT
open Go.Proofs.YtlidnobkkgcnlaaW.PrintWords renaming blk_frozen → zU
open Go.Proofs.YtlidnobkkgcnlaaW.PrintWords renaming blk_below → zV
open Go.Proofs.YtlidnobkkgcnlaaW.PrintWords renaming blk_cell → zW
open Go.Proofs.YtlidnobkkgcnlaaW.PrintWords renaming blk_far → zX
open Go.Proofs.YtlidnobkkgcnlaaW.PrintWords renaming blk_kept → zY
open Go.Proofs.YtlidnobkkgcnlaaW.PrintWords renaming below_step → zZ
/-! ### laws_FnExactReceive.calls, part 1 -/
set_option maxHeartbeats 8000000 in
set_option maxRecDepth 100000 in
noncomputable def laws_FnExactReceive.cut1 (k : Nat) (a0_0 : Int) (a0_1 : Int) (A0_2 : Option Addr) (c0_2 : Nat) (l0_2 : List ByteArray) (a0_3 : Int) (A0_4 : Option Addr) (c0_4 : Nat) (l0_4 : List ByteArray) (a1_0 : Int) (a1_1 : Int) (a1_2 : ByteArray) (r : Bool) (w : World) : Σ' G : Prop, (Unit → G) → ((laws_FnExactReceive.cut0 k a0_0 a0_1 A0_2 c0_2 l0_2 a0_3 A0_4 c0_4 l0_4 a1_0 a1_1 a1_2 r w).1) := by
     constructor
     case snd =>
      intro hG_
      intro hu24 hu41 hu26 HR0_2 HC0_2 HR0_4 HC0_4 t236 A3 c4b0 t237 A10 c11b0 t238 t239 t240 t243 t244 A19 t247 t248 t249 A20 t250 t251 t252 t255 t256 t259 A21 t261 t262 t263 t266 t267 A22 t271 t272 t273 A23 t274 t275 t276 t279 t280 t283 A24 HC25 xx0_0 gb234 w26 GW234 GE234 gb235 w27 GW235 GE235 NB234_235 NB235_234 hnb28 hnc28 hcz29_0 hcz29_1 hcz29_2 hcz29_3 hcz29_4 hfz29_0 hfz29_1 hfz29_2 hfz29_3 hfz29_4 w30 hcz31_0 hcz31_1 hcz31_2 hfz31_0 hfz31_1 hfz31_2 w32 xx0_1 xx0_2 w33 xx0_3 v241 v245 gb260 w40 xx0_4 GW260 GE260 NB234_260 NB260_234 NB235_260 NB260_235 xx0_5 Ao43 co43 Ao46 co46 hs41 hfs41 hns41_0 hns41_1 hms41_0 hms41_1 hs42 hfs42 hns42_0 hns42_1 hms42_0 hms42_1 hs44 hfs44 hns44_0 hns44_1 hms44_0 hms44_1 hs45 hfs45 hns45_0 hns45_1 hms45_0 hms45_1 hs47 hfs47 hns47_0 hns47_1 hms47_0 hms47_1 xx0_6 hnb48 hnc48 hcz49_0 hcz49_1 hcz49_2 hcz49_3 hcz49_4 hfz49_0 hfz49_1 hfz49_2 hfz49_3 hfz49_4 w50 gb270 w51 GW270 GE270 NB234_270 NB270_234 NB235_270 NB270_235 NB260_270 NB270_260 hnb52 hnc52 hnb53 hnc53 hnb54 hnc54 hcz55_0 hcz55_1 hcz55_2 hcz55_3 hcz55_4 hfz55_0 hfz55_1 hfz55_2 hfz55_3 hfz55_4 Ao56 co56 Ao57 co57 w58 HT_ HW_ w59 xx0_7 gb284 w63 hS_ BK234 BK235 BK260 BK270 BK284 GW284 GE284 NB234_284 NB284_234 NB235_284 NB284_235 NB260_284 NB284_260 NB270_284 NB284_270 HB xx0_8 Ao66 co66 xx0_9 Ao69 co69 HO242 HO246 HO254 HO258 HO265 HO269 HO278 HO282 hs64 hfs64 hns64_0 hns64_1 hns64_2 hns64_3 hms64_0 hms64_1 hms64_2 hms64_3 hs65 hfs65 hns65_0 hns65_1 hns65_2 hns65_3 hms65_0 hms65_1 hms65_2 hms65_3 hs67 hfs67 hns67_0 hns67_1 hns67_2 hns67_3 hms67_0 hms67_1 hms67_2 hms67_3 hs68 hfs68 hns68_0 hns68_1 hns68_2 hns68_3 hms68_0 hms68_1 hms68_2 hms68_3 hs70 hfs70 hns70_0 hns70_1 hns70_2 hns70_3 hms70_0 hms70_1 hms70_2 hms70_3 hHeld xx0_10 xx0_11 xx0_12 xx0_13 wc u16 u17 u18 u19 u20 u21 u22 u23 u24 u25 u26 u27 u28 u29 u30 u31 u32 u33 u34 u35 u36 u37 u38 u39 u40 u41 u42 u43 u44 u45 u46 u47 u48 u49 u50 u51 u52 u53 u54 u55 u56 u57 u58 u59 u60 u61 u62 u63 u64 u65 u66 u67 u68 u69 u70 u71 u72 u73 u74 u75 u76 u77 u78 u79 u80 u81 u82 u83 u84 u85 u86 u87 u88 u89 u90 u91 u92 u93 u94 u95 u96 u97 u98 u99 u100 u101 u102 u103 u104 u105 u106 u107 u108 hcut
      clear HC25; try clear c1; try clear c2; try clear p2; try clear c7; try clear c8; try clear c9; try clear c15; try clear c20; try clear c25; try clear c72; try clear c73; try clear c74; try clear c75; try clear c76; try clear c78; try clear c79; try clear c80; try clear c83; try clear c84; try clear c85; try clear c86; try clear c88; try clear c89; try clear c90; try clear hcz77_0; try clear hcz77_1; try clear hcz77_2; try clear hcz77_3; try clear hcz77_4; try clear hcz81_0; try clear hcz81_1; try clear hcz81_2; try clear hcz81_3; try clear hcz81_4; try clear hcz87_0; try clear hcz87_1; try clear hcz87_2; try clear hcz87_3; try clear hcz87_4; try clear hcz91_0; try clear hcz91_1; try clear hcz91_2; try clear hcz91_3; try clear hcz91_4; try clear hfz77_0; try clear hfz77_1; try clear hfz77_2; try clear hfz77_3; try clear hfz77_4; try clear hfz81_0; try clear hfz81_1; try clear hfz81_2; try clear hfz81_3; try clear hfz81_4; try clear hfz87_0; try clear hfz87_1; try clear hfz87_2; try clear hfz87_3; try clear hfz87_4; try clear hfz91_0; try clear hfz91_1; try clear hfz91_2; try clear hfz91_3; try clear hfz91_4
      obtain ⟨kq,x51_24,rfl,HA,HJ24,HO_261002,HO_261004,HO_271002,HO_271004,HO_285002,HO_285004,BK234,BK235,BK260,BK270,BK284,HB⟩ := hcut
      cases kq with
      | zero => exact absurd HA.out (by simp [laws_FnExactReceive.j0])
      | succ kj24 =>
       have H := HA.out
       clear HA
       simp only [laws_FnExactReceive.j0] at H
       by_cases c93 : x51_24 = true
       ·
        subst c93
        have H1 : (some false) = some r := by rw [if_pos rfl] at H; exact H
        clear H; have H := H1; clear H1
        obtain rfl := Option.some.inj H
        go_wp2
        go_ret
        exact ⟨by first|rfl|(simp [errW_none,errW_some] <;> rfl)|(simp [*,errW_none,errW_some] <;> rfl),by repeat (first|(with_reducible first|exact HB.out|apply zO|apply zQ|apply zP|refine zN ?_ GE234.out|refine zN ?_ GE235.out|refine zN ?_ GE260.out|refine zN ?_ GE270.out|refine zN ?_ GE284.out)|exact HB.out)⟩
       ·
        replace c93 := Bool.eq_false_iff.mpr c93
        subst c93
        have H1 : ((laws_toEnd.f kj24 a0_0 a0_1 l0_2 a0_3 l0_4).bind fun bt286 => ((laws_eqEnd.f kj24 t261 t262 t263 t266 t267 bt286.1 bt286.2.1 bt286.2.2.1 bt286.2.2.2.1 bt286.2.2.2.2).bind fun t295 => (if t295 = true then ((laws_markEnd.f kj24 t261 t262 t263 t266 t267 1).bind fun bt296 => (if bt296.1 < 0 then (laws_FnExactReceive.j1 kj24 t259 true a0_0 a0_1 l0_2 a0_3 l0_4 a1_0 a1_1 a1_2 t250 t251 t252 t255 t256 t274 t275 t276 t279 t280) else ((laws_eqEnd.f kj24 t274 t275 t276 t279 t280 t250 t251 t252 t255 t256).bind fun t299 => (if t299 = true then (laws_FnExactReceive.j1 kj24 t259 (t283 != t259) a0_0 a0_1 l0_2 a0_3 l0_4 a1_0 a1_1 a1_2 t250 t251 t252 t255 t256 t274 t275 t276 t279 t280) else (laws_FnExactReceive.j1 kj24 t259 true a0_0 a0_1 l0_2 a0_3 l0_4 a1_0 a1_1 a1_2 t250 t251 t252 t255 t256 t274 t275 t276 t279 t280))))) else (some false)))) = some r := by rw [if_neg (show ¬ (false = true) by decide)] at H; exact H
        clear H; have H := H1; clear H1
        replace H := Option.bind_eq_some_iff.mp H
        obtain ⟨⟨t286,t287,t288,t291,t292⟩,A940,H⟩ := H
        replace H : ((laws_eqEnd.f kj24 t261 t262 t263 t266 t267 t286 t287 t288 t291 t292).bind fun t295 => (if t295 = true then ((laws_markEnd.f kj24 t261 t262 t263 t266 t267 1).bind fun bt296 => (if bt296.1 < 0 then (laws_FnExactReceive.j1 kj24 t259 true a0_0 a0_1 l0_2 a0_3 l0_4 a1_0 a1_1 a1_2 t250 t251 t252 t255 t256 t274 t275 t276 t279 t280) else ((laws_eqEnd.f kj24 t274 t275 t276 t279 t280 t250 t251 t252 t255 t256).bind fun t299 => (if t299 = true then (laws_FnExactReceive.j1 kj24 t259 (t283 != t259) a0_0 a0_1 l0_2 a0_3 l0_4 a1_0 a1_1 a1_2 t250 t251 t252 t255 t256 t274 t275 t276 t279 t280) else (laws_FnExactReceive.j1 kj24 t259 true a0_0 a0_1 l0_2 a0_3 l0_4 a1_0 a1_1 a1_2 t250 t251 t252 t255 t256 t274 t275 t276 t279 t280))))) else (some false))) = some r := H
        have A94 := zA A940
        clear A940
        replace H := Option.bind_eq_some_iff.mp H
        obtain ⟨t295,A950,H⟩ := H
        replace H : (if t295 = true then ((laws_markEnd.f kj24 t261 t262 t263 t266 t267 1).bind fun bt296 => (if bt296.1 < 0 then (laws_FnExactReceive.j1 kj24 t259 true a0_0 a0_1 l0_2 a0_3 l0_4 a1_0 a1_1 a1_2 t250 t251 t252 t255 t256 t274 t275 t276 t279 t280) else ((laws_eqEnd.f kj24 t274 t275 t276 t279 t280 t250 t251 t252 t255 t256).bind fun t299 => (if t299 = true then (laws_FnExactReceive.j1 kj24 t259 (t283 != t259) a0_0 a0_1 l0_2 a0_3 l0_4 a1_0 a1_1 a1_2 t250 t251 t252 t255 t256 t274 t275 t276 t279 t280) else (laws_FnExactReceive.j1 kj24 t259 true a0_0 a0_1 l0_2 a0_3 l0_4 a1_0 a1_1 a1_2 t250 t251 t252 t255 t256 t274 t275 t276 t279 t280))))) else (some false)) = some r := H
        have A95 := zA A950
        clear A950
        by_cases c96 : t295 = true
        ·
         subst c96
         have H1 : ((laws_markEnd.f kj24 t261 t262 t263 t266 t267 1).bind fun bt296 => (if bt296.1 < 0 then (laws_FnExactReceive.j1 kj24 t259 true a0_0 a0_1 l0_2 a0_3 l0_4 a1_0 a1_1 a1_2 t250 t251 t252 t255 t256 t274 t275 t276 t279 t280) else ((laws_eqEnd.f kj24 t274 t275 t276 t279 t280 t250 t251 t252 t255 t256).bind fun t299 => (if t299 = true then (laws_FnExactReceive.j1 kj24 t259 (t283 != t259) a0_0 a0_1 l0_2 a0_3 l0_4 a1_0 a1_1 a1_2 t250 t251 t252 t255 t256 t274 t275 t276 t279 t280) else (laws_FnExactReceive.j1 kj24 t259 true a0_0 a0_1 l0_2 a0_3 l0_4 a1_0 a1_1 a1_2 t250 t251 t252 t255 t256 t274 t275 t276 t279 t280))))) = some r := by rw [if_pos rfl] at H; exact H
         clear H; have H := H1; clear H1
         replace H := Option.bind_eq_some_iff.mp H
         obtain ⟨⟨t296,t297,t298⟩,A970,H⟩ := H
         replace H : (if t296 < 0 then (laws_FnExactReceive.j1 kj24 t259 true a0_0 a0_1 l0_2 a0_3 l0_4 a1_0 a1_1 a1_2 t250 t251 t252 t255 t256 t274 t275 t276 t279 t280) else ((laws_eqEnd.f kj24 t274 t275 t276 t279 t280 t250 t251 t252 t255 t256).bind fun t299 => (if t299 = true then (laws_FnExactReceive.j1 kj24 t259 (t283 != t259) a0_0 a0_1 l0_2 a0_3 l0_4 a1_0 a1_1 a1_2 t250 t251 t252 t255 t256 t274 t275 t276 t279 t280) else (laws_FnExactReceive.j1 kj24 t259 true a0_0 a0_1 l0_2 a0_3 l0_4 a1_0 a1_1 a1_2 t250 t251 t252 t255 t256 t274 t275 t276 t279 t280)))) = some r := H
         have A97 := zA A970
         clear A970
         have HC98 := zA H
         clear H
         try go_wp2
         have n0_ := zA (Kd.Q_drew HO_261002.out)
         have n1_ := zA (zL HO_261004.out)
         have n2_ := zA (Kd.Q_drew HO_271002.out)
         have n3_ := zA (zL HO_271004.out)
         have n4_ := zA (Kd.Q_drew HO_285002.out)
         have n5_ := zA (zL HO_285004.out)
         have n6_ := zA (zT BK234.out)
         have n7_ := zA (zT BK235.out)
         have n8_ := zA (zT BK260.out)
         have n9_ := zA (zT BK270.out)
         have n10_ := zA (zT BK284.out)
         have n11_ := zA (zP HB.out)
         clear HO_261002 HO_261004 HO_271002 HO_271004 HO_285002 HO_285004 BK234 BK235 BK260 BK270 BK284 HB
         have HO_261002 := n0_
         have HO_261004 := n1_
         have HO_271002 := n2_
         have HO_271004 := n3_
         have HO_285002 := n4_
         have HO_285004 := n5_
         have BK234 := n6_
         have BK235 := n7_
         have BK260 := n8_
         have BK270 := n9_
         have BK284 := n10_
         have HB := n11_
         clear n0_ n1_ n2_ n3_ n4_ n5_ n6_ n7_ n8_ n9_ n10_ n11_
         refine start_ (n := 5) (S := fun w' => w'.cell? ⟨gb270,0,none⟩ = some (.int .i64 t261) ∧ w'.cell? ⟨gb270,1,none⟩ = some (.int .i64 t262) ∧ w'.cell? ⟨gb270,2,none⟩ = some (.slice Ao56 t263.length co56) ∧ w'.cell? ⟨gb270,3,none⟩ = some (.int .i64 t266) ∧ w'.cell? ⟨gb270,4,none⟩ = some (.slice Ao57 t267.length co57) ∧ w'.cell? ⟨gb234,0,none⟩ = some (.int .i64 a0_0) ∧ w'.cell? ⟨gb234,1,none⟩ = some (.int .i64 a0_1) ∧ w'.cell? ⟨gb234,2,none⟩ = some (.slice A0_2 l0_2.length c0_2) ∧ w'.cell? ⟨gb234,3,none⟩ = some (.int .i64 a0_3) ∧ w'.cell? ⟨gb234,4,none⟩ = some (.slice A0_4 l0_4.length c0_4)) (ds := []) #[false,false,false,false,false] (by kernel_rfl) rfl rfl ⟨(zW BK270.out 0).trans rfl,(zW BK270.out 1).trans rfl,(zW BK270.out 2).trans rfl,(zW BK270.out 3).trans rfl,(zW BK270.out 4).trans rfl,(zW BK234.out 0).trans rfl,(zW BK234.out 1).trans rfl,(zW BK234.out 2).trans rfl,(zW BK234.out 3).trans rfl,(zW BK234.out 4).trans rfl⟩ (fun hHeld => ?_)
         generalize wc.drew = w99 at HO_261002 HO_261004 HO_271002 HO_271004 HO_285002 HO_285004 BK234 BK235 BK260 BK270 BK284 HB hHeld ⊢
         refine take_ (i := 0) (N := some 52) (v := ?_) (a' := ?_) #[true,false,false,false,false] rfl rfl (by kernel_rfl) (fun _ _ _ h => h) (Or.inl ⟨by rfl,?_⟩) hHeld ?_ ?_; rotate_left
         ·
          rintro w' ⟨s0,s1,s2,s3,s4,s5,s6,s7,s8,s9⟩
          go_simp; with_reducible rfl
         rotate_left
         · simp only [Act.put,List.setIfInBounds_toArray,List.set_cons_zero,List.set_cons_succ,i64_w,i32_w]; rfl
         refine take_ (i := 1) (N := some 53) (v := ?_) (a' := ?_) #[true,true,false,false,false] rfl rfl (by kernel_rfl) (fun _ _ _ h => h) (Or.inl ⟨by rfl,?_⟩) hHeld ?_ ?_; rotate_left
         ·
          rintro w' ⟨s0,s1,s2,s3,s4,s5,s6,s7,s8,s9⟩
          go_simp; with_reducible rfl
         rotate_left
         · simp only [Act.put,List.setIfInBounds_toArray,List.set_cons_zero,List.set_cons_succ,i64_w,i32_w]; rfl
         refine one_ (i := 2) (N := some 54) #[true,true,true,false,false] rfl rfl (by kernel_rfl) (by decide) (fun K hK => ?_)
         refine goes_ Try.func13 (by kernel_rfl) rfl #[.agg #[.int .i64 a0_0,.int .i64 a0_1,.slice A0_2 l0_2.length c0_2,.int .i64 a0_3,.slice A0_4 l0_4.length c0_4]] (by rfl) rfl rfl (by (try simp only [List.map_toArray,List.map_cons,List.map_nil]); first | done|rfl|(simp only [List.length_drop,List.length_take]; rfl)) ?_
         with_reducible refine (laws_toEnd.calls kj24 a0_0 a0_1 _ _ l0_2 a0_3 _ _ l0_4 t286 t287 t288 t291 t292 _ ?side1 ?side2 ?side3 ?side4 A94.out).mono ?_
         (case side1 => repeat (first|exact (Kd.C_below HR0_2.out HB.out)|(with_reducible refine Kd.C_alloc ?_ _)|(with_reducible refine Kd.C_drewN ?_ _)|(with_reducible refine Kd.C_drew ?_)))
         (case side2 => exact HC0_2.out)
         (case side3 => repeat (first|exact (Kd.C_below HR0_4.out HB.out)|(with_reducible refine Kd.C_alloc ?_ _)|(with_reducible refine Kd.C_drewN ?_ _)|(with_reducible refine Kd.C_drew ?_)))
         (case side4 => exact HC0_4.out)
         rintro e w100 ⟨v289,v293,rfl,ho0,ho1,hb⟩
         refine ⟨_,rfl,?_⟩
         have n0_ := zA (Kd.Q_mono (Kd.Q_told (Kd.Q_told (Kd.Q_old (by (with_reducible repeat (first|apply Kd.Q_alloc|apply Kd.Q_drewN|apply Kd.Q_drew)); exact HO_261002.out) hb) (zF ho0)) (zF ho1)) (fun _ h_ => h_.1))
         have n1_ := zA (zC (zE (zE (zM (rrA19b HO_261004.out) hb) (zF ho0)) (zF ho1)) (fun _ h_ => h_.1))
         have n2_ := zA (Kd.Q_mono (Kd.Q_told (Kd.Q_told (Kd.Q_old (by (with_reducible repeat (first|apply Kd.Q_alloc|apply Kd.Q_drewN|apply Kd.Q_drew)); exact HO_271002.out) hb) (zF ho0)) (zF ho1)) (fun _ h_ => h_.1))
         have n3_ := zA (zC (zE (zE (zM (rrA19b HO_271004.out) hb) (zF ho0)) (zF ho1)) (fun _ h_ => h_.1))
         have n4_ := zA (Kd.Q_mono (Kd.Q_told (Kd.Q_told (Kd.Q_old (by (with_reducible repeat (first|apply Kd.Q_alloc|apply Kd.Q_drewN|apply Kd.Q_drew)); exact HO_285002.out) hb) (zF ho0)) (zF ho1)) (fun _ h_ => h_.1))
         have n5_ := zA (zC (zE (zE (zM (rrA19b HO_285004.out) hb) (zF ho0)) (zF ho1)) (fun _ h_ => h_.1))
         have n6_ := zA (Kd.R_lower (zG (zG (zG (zG (zG (zG ho0 (Kd.Q_lt (by (with_reducible repeat (first|apply Kd.Q_alloc|apply Kd.Q_drewN|apply Kd.Q_drew)); exact HO_261002.out))) (Kd.R_lt (rrA19b HO_261004.out))) (Kd.Q_lt (by (with_reducible repeat (first|apply Kd.Q_alloc|apply Kd.Q_drewN|apply Kd.Q_drew)); exact HO_271002.out))) (Kd.R_lt (rrA19b HO_271004.out))) (Kd.Q_lt (by (with_reducible repeat (first|apply Kd.Q_alloc|apply Kd.Q_drewN|apply Kd.Q_drew)); exact HO_285002.out))) (Kd.R_lt (rrA19b HO_285004.out))) (below_size (by repeat (first|(with_reducible first|exact HB.out|apply zO|apply zQ|apply zP|refine zN ?_ GE234.out|refine zN ?_ GE235.out|refine zN ?_ GE260.out|refine zN ?_ GE270.out|refine zN ?_ GE284.out)|exact HB.out))))
         have n7_ := zA (Kd.R_lower (zG (zG (zG (zG (zG (zG ho1 (Kd.Q_lt (by (with_reducible repeat (first|apply Kd.Q_alloc|apply Kd.Q_drewN|apply Kd.Q_drew)); exact HO_261002.out))) (Kd.R_lt (rrA19b HO_261004.out))) (Kd.Q_lt (by (with_reducible repeat (first|apply Kd.Q_alloc|apply Kd.Q_drewN|apply Kd.Q_drew)); exact HO_271002.out))) (Kd.R_lt (rrA19b HO_271004.out))) (Kd.Q_lt (by (with_reducible repeat (first|apply Kd.Q_alloc|apply Kd.Q_drewN|apply Kd.Q_drew)); exact HO_285002.out))) (Kd.R_lt (rrA19b HO_285004.out))) (below_size (by repeat (first|(with_reducible first|exact HB.out|apply zO|apply zQ|apply zP|refine zN ?_ GE234.out|refine zN ?_ GE235.out|refine zN ?_ GE260.out|refine zN ?_ GE270.out|refine zN ?_ GE284.out)|exact HB.out))))
         have n8_ := zA (zV (g := gb234) (o := .cells #[.int .i64 a0_0,.int .i64 a0_1,.slice A0_2 l0_2.length c0_2,.int .i64 a0_3,.slice A0_4 l0_4.length c0_4] 24 (0,0)) (rrB19b BK234.out) hb)
         have n9_ := zA (zV (g := gb235) (o := .cells #[.int .i64 a1_0,.int .i64 a1_1,.string a1_2] 41 (0,0)) (rrB19b BK235.out) hb)
         have n10_ := zA (zV (g := gb260) (o := .cells #[.int .i64 t250,.int .i64 t251,.slice Ao43 t252.length co43,.int .i64 t255,.slice Ao46 t256.length co46] 26 (0,0)) (rrB19b BK260.out) hb)
         have n11_ := zA (zV (g := gb270) (o := .cells #[.int .i64 t261,.int .i64 t262,.slice Ao56 t263.length co56,.int .i64 t266,.slice Ao57 t267.length co57] 26 (0,0)) (rrB19b BK270.out) hb)
         have n12_ := zA (zV (g := gb284) (o := .cells #[.int .i64 t274,.int .i64 t275,.slice Ao66 t276.length co66,.int .i64 t279,.slice Ao69 t280.length co69] 26 (0,0)) (rrB19b BK284.out) hb)
         have n13_ := zA (zZ (by repeat (first|(with_reducible first|exact HB.out|apply zO|apply zQ|apply zP|refine zN ?_ GE234.out|refine zN ?_ GE235.out|refine zN ?_ GE260.out|refine zN ?_ GE270.out|refine zN ?_ GE284.out)|exact HB.out)) hb)
         clear HO_261002 HO_261004 HO_271002 HO_271004 HO_285002 HO_285004 BK234 BK235 BK260 BK270 BK284 HB
         have HO_261002 := n0_
         have HO_261004 := n1_
         have HO_271002 := n2_
         have HO_271004 := n3_
         have HO_285002 := n4_
         have HO_285004 := n5_
         have HO290 := n6_
         have HO294 := n7_
         have BK234 := n8_
         have BK235 := n9_
         have BK260 := n10_
         have BK270 := n11_
         have BK284 := n12_
         have HB := n13_
         clear n0_ n1_ n2_ n3_ n4_ n5_ n6_ n7_ n8_ n9_ n10_ n11_ n12_ n13_
         (try clear hb)
         (try clear hb2)
         (try clear hk)
         (try clear hi)
         (try clear ho0)
         (try clear ho1)
         obtain ⟨Ao101,co101,eo101⟩ := Kd.R_slice HO290.out
         (first | subst eo101 | (injection eo101 with f1_ f2_ f3_; have f4_ := f1_.symm; have f5_ := f3_.symm; clear f1_ f2_ f3_; subst f4_; subst f5_))
         obtain ⟨Ao102,co102,eo102⟩ := Kd.R_slice HO294.out
         (first | subst eo102 | (injection eo102 with f1_ f2_ f3_; have f4_ := f1_.symm; have f5_ := f3_.symm; clear f1_ f2_ f3_; subst f4_; subst f5_))
         refine hK.out _ _ ⟨(zW BK270.out 0).trans rfl,(zW BK270.out 1).trans rfl,(zW BK270.out 2).trans rfl,(zW BK270.out 3).trans rfl,(zW BK270.out 4).trans rfl,(zW BK234.out 0).trans rfl,(zW BK234.out 1).trans rfl,(zW BK234.out 2).trans rfl,(zW BK234.out 3).trans rfl,(zW BK234.out 4).trans rfl⟩ (fun hHeld => ?_)
         clear hK K
         refine norm_ (a' := ?_) ?_ ?_
         rotate_left
         ·
          show Act.put _ (some 54) _ = _
          simp only [Act.put,List.setIfInBounds_toArray,List.set_cons_zero,List.set_cons_succ,i64_w,i32_w]; rfl
         refine one_ (i := 3) (N := some 55) #[true,true,true,true,false] rfl rfl (by kernel_rfl) (by decide) (fun K hK => ?_)
         refine goes_ Try.func15 (by kernel_rfl) rfl #[.agg #[.int .i64 t261,.int .i64 t262,.slice Ao56 t263.length co56,.int .i64 t266,.slice Ao57 t267.length co57],.agg #[.int .i64 t286,.int .i64 t287,.slice Ao101 t288.length co101,.int .i64 t291,.slice Ao102 t292.length co102]] (by rfl) rfl rfl (by (try simp only [List.map_toArray,List.map_cons,List.map_nil]); first | done|rfl|(simp only [List.length_drop,List.length_take]; rfl)) ?_
         with_reducible refine (laws_eqEnd.calls kj24 t261 t262 _ _ t263 t266 _ _ t267 t286 t287 _ _ t288 t291 _ _ t292 true _ ?side1 ?side2 ?side3 ?side4 ?side5 ?side6 ?side7 ?side8 A95.out).mono ?_
         (case side1 => repeat (first|exact (Kd.Q_reads' HO_271002.out).2.2|(with_reducible refine Kd.C_alloc ?_ _)|(with_reducible refine Kd.C_drewN ?_ _)|(with_reducible refine Kd.C_drew ?_)))
         (case side2 => exact (Kd.Q_reads' HO_271002.out).2.1)
         (case side3 => repeat (first|exact (zI HO_271004.out).2.2|(with_reducible refine Kd.C_alloc ?_ _)|(with_reducible refine Kd.C_drewN ?_ _)|(with_reducible refine Kd.C_drew ?_)))
         (case side4 => exact (zI HO_271004.out).2.1)
         (case side5 => repeat (first|exact (zI HO290.out).2.2|(with_reducible refine Kd.C_alloc ?_ _)|(with_reducible refine Kd.C_drewN ?_ _)|(with_reducible refine Kd.C_drew ?_)))
         (case side6 => exact (zI HO290.out).2.1)
         (case side7 => repeat (first|exact (zI HO294.out).2.2|(with_reducible refine Kd.C_alloc ?_ _)|(with_reducible refine Kd.C_drewN ?_ _)|(with_reducible refine Kd.C_drew ?_)))
         (case side8 => exact (zI HO294.out).2.1)
         rintro e w103 ⟨rfl,hb⟩
         refine ⟨_,rfl,?_⟩
         have n0_ := zA (Kd.Q_below (by (with_reducible repeat (first|apply Kd.Q_alloc|apply Kd.Q_drewN|apply Kd.Q_drew)); exact HO_261002.out) hb)
         have n1_ := zA (zD (rrA19b HO_261004.out) hb)
         have n2_ := zA (Kd.Q_below (by (with_reducible repeat (first|apply Kd.Q_alloc|apply Kd.Q_drewN|apply Kd.Q_drew)); exact HO_271002.out) hb)
         have n3_ := zA (zD (rrA19b HO_271004.out) hb)
         have n4_ := zA (Kd.Q_below (by (with_reducible repeat (first|apply Kd.Q_alloc|apply Kd.Q_drewN|apply Kd.Q_drew)); exact HO_285002.out) hb)
         have n5_ := zA (zD (rrA19b HO_285004.out) hb)
         have n6_ := zA (zD (rrA19b HO290.out) hb)
         have n7_ := zA (zD (rrA19b HO294.out) hb)
         have n8_ := zA (zV (g := gb234) (o := .cells #[.int .i64 a0_0,.int .i64 a0_1,.slice A0_2 l0_2.length c0_2,.int .i64 a0_3,.slice A0_4 l0_4.length c0_4] 24 (0,0)) (rrB19b BK234.out) hb)
         have n9_ := zA (zV (g := gb235) (o := .cells #[.int .i64 a1_0,.int .i64 a1_1,.string a1_2] 41 (0,0)) (rrB19b BK235.out) hb)
         have n10_ := zA (zV (g := gb260) (o := .cells #[.int .i64 t250,.int .i64 t251,.slice Ao43 t252.length co43,.int .i64 t255,.slice Ao46 t256.length co46] 26 (0,0)) (rrB19b BK260.out) hb)
         have n11_ := zA (zV (g := gb270) (o := .cells #[.int .i64 t261,.int .i64 t262,.slice Ao56 t263.length co56,.int .i64 t266,.slice Ao57 t267.length co57] 26 (0,0)) (rrB19b BK270.out) hb)
         have n12_ := zA (zV (g := gb284) (o := .cells #[.int .i64 t274,.int .i64 t275,.slice Ao66 t276.length co66,.int .i64 t279,.slice Ao69 t280.length co69] 26 (0,0)) (rrB19b BK284.out) hb)
         have n13_ := zA (zZ (by repeat (first|(with_reducible first|exact HB.out|apply zO|apply zQ|apply zP|refine zN ?_ GE234.out|refine zN ?_ GE235.out|refine zN ?_ GE260.out|refine zN ?_ GE270.out|refine zN ?_ GE284.out)|exact HB.out)) hb)
         clear HO_261002 HO_261004 HO_271002 HO_271004 HO_285002 HO_285004 HO290 HO294 BK234 BK235 BK260 BK270 BK284 HB
         have HO_261002 := n0_
         have HO_261004 := n1_
         have HO_271002 := n2_
         have HO_271004 := n3_
         have HO_285002 := n4_
         have HO_285004 := n5_
         have HO290 := n6_
         have HO294 := n7_
         have BK234 := n8_
         have BK235 := n9_
         have BK260 := n10_
         have BK270 := n11_
         have BK284 := n12_
         have HB := n13_
         clear n0_ n1_ n2_ n3_ n4_ n5_ n6_ n7_ n8_ n9_ n10_ n11_ n12_ n13_
         (try clear hb)
         (try clear hb2)
         (try clear hk)
         (try clear hi)
         refine hK.out _ _ ⟨(zW BK270.out 0).trans rfl,(zW BK270.out 1).trans rfl,(zW BK270.out 2).trans rfl,(zW BK270.out 3).trans rfl,(zW BK270.out 4).trans rfl,(zW BK234.out 0).trans rfl,(zW BK234.out 1).trans rfl,(zW BK234.out 2).trans rfl,(zW BK234.out 3).trans rfl,(zW BK234.out 4).trans rfl⟩ (fun hHeld => ?_)
         clear hK K
         refine norm_ (a' := ?_) ?_ ?_
         rotate_left
         ·
          show Act.put _ (some 55) _ = _
          simp only [Act.put,List.setIfInBounds_toArray,List.set_cons_zero,List.set_cons_succ,i64_w,i32_w]; rfl
         refine pure_ (i := 4) (N := some 56) (v := ?_) (a' := ?_) #[true,true,true,true,true] rfl rfl (by kernel_rfl) (fun _ _ _ h => h) (Or.inl ⟨by rfl,?_⟩) ?_ ?_; rotate_left
         · intro w'; go_simp; with_reducible rfl
         rotate_left
         · simp only [Act.put,List.setIfInBounds_toArray,List.set_cons_zero,List.set_cons_succ,i64_w,i32_w]; rfl
         refine done_ (by kernel_rfl) ?_
         have hnb104 := NB270_234.out
         have hnc104 := NB234_270.out
         have hnb105 := NB270_235.out
         have hnc105 := NB235_270.out
         have hnb106 := NB270_260.out
         have hnc106 := NB260_270.out
         have hnb107 := NB270_284.out
         have hnc107 := NB284_270.out
         have hcz108_0 : w103.cell? ⟨gb270,0,none⟩ = some (.int .i64 t261) := (zW BK270.out 0).trans rfl
         have hcz108_1 : w103.cell? ⟨gb270,1,none⟩ = some (.int .i64 t262) := (zW BK270.out 1).trans rfl
         have hcz108_2 : w103.cell? ⟨gb270,2,none⟩ = some (.slice Ao56 t263.length co56) := (zW BK270.out 2).trans rfl
         have hcz108_3 : w103.cell? ⟨gb270,3,none⟩ = some (.int .i64 t266) := (zW BK270.out 3).trans rfl
         have hcz108_4 : w103.cell? ⟨gb270,4,none⟩ = some (.slice Ao57 t267.length co57) := (zW BK270.out 4).trans rfl
         have hfz108_0 := zU BK270.out 0
         have hfz108_1 := zU BK270.out 1
         have hfz108_2 := zU BK270.out 2
         have hfz108_3 := zU BK270.out 3
         have hfz108_4 := zU BK270.out 4
         go_upto_region 17 with (first | ((with_reducible refine gate_callee (f := 16) rfl ?_); refine goesL_ (some 59) rfl rfl Try.func16 (by kernel_rfl) rfl #[.agg #[.int .i64 t261,.int .i64 t262,.slice Ao56 t263.length co56,.int .i64 t266,.slice Ao57 t267.length co57],.int .i64 1] rfl (by (try simp only [List.map_toArray,List.map_cons,List.map_nil]); first | done|rfl|(simp only [List.length_drop,List.length_take]; rfl)) ?_; (with_reducible refine (laws_markEnd.calls kj24 t261 t262 (fun k_ => some k_ = (.slice Ao56 t263.length co56 : Value).ownBlock) (.slice Ao56 t263.length co56) t263 t266 (fun k_ => some k_ = (.slice Ao57 t267.length co57 : Value).ownBlock) (.slice Ao57 t267.length co57) t267 1 t296 t297 t298 w _ ?side1 ?side2 ?side3 ?side4 ?side5 A97.out).mono ?_); (case side1 => repeat (first|(with_reducible first|exact HB.out|apply zO|apply zQ|apply zP|refine zN ?_ GE234.out|refine zN ?_ GE235.out|refine zN ?_ GE260.out|refine zN ?_ GE270.out|refine zN ?_ GE284.out)|exact HB.out)); (case side2 => exact Kd.Q_tight rfl HO_271002.out); (case side3 => exact fun k_ e_ => (HO_271002.out.1 k_ e_.symm).1.1.2.2.1); (case side4 => exact Kd.R_tight rfl HO_271004.out); (case side5 => exact fun k_ e_ => (HO_271004.out.1 k_ e_.symm).1.1.2.2.1); rintro e w109 ⟨rfl,hy0,hy1,hb,hkp⟩; refine ⟨_,rfl,?_⟩; have n0_ := zA (Kd.Q_mono (ok' := fun k_ => some k_ ≠ (.slice Ao46 t256.length co46 : Value).ownBlock ∧ some k_ ≠ (.slice Ao56 t263.length co56 : Value).ownBlock ∧ some k_ ≠ (.slice Ao57 t267.length co57 : Value).ownBlock ∧ some k_ ≠ (.slice Ao66 t276.length co66 : Value).ownBlock ∧ some k_ ≠ (.slice Ao69 t280.length co69 : Value).ownBlock ∧ some k_ ≠ (.slice Ao101 t288.length co101 : Value).ownBlock ∧ some k_ ≠ (.slice Ao102 t292.length co102 : Value).ownBlock) (Kd.Q_keptB (HO_261002.out) hkp (fun k_ hk_ hs_ => Or.elim hs_ (fun e_ => (hk_.1.1.2.1) e_) (fun e_ => (hk_.1.1.2.2.1) e_))) (fun k_ hk_ => ⟨hk_.1.1.1.1,hk_.1.1.1.2.1,hk_.1.1.1.2.2.1,hk_.1.1.1.2.2.2.1,hk_.1.1.1.2.2.2.2,hk_.1.1.2,hk_.1.2⟩)); have n1_ := zA (zC (ok' := fun k_ => some k_ ≠ (.slice Ao43 t252.length co43 : Value).ownBlock ∧ some k_ ≠ (.slice Ao56 t263.length co56 : Value).ownBlock ∧ some k_ ≠ (.slice Ao57 t267.length co57 : Value).ownBlock ∧ some k_ ≠ (.slice Ao66 t276.length co66 : Value).ownBlock ∧ some k_ ≠ (.slice Ao69 t280.length co69 : Value).ownBlock ∧ some k_ ≠ (.slice Ao101 t288.length co101 : Value).ownBlock ∧ some k_ ≠ (.slice Ao102 t292.length co102 : Value).ownBlock) (Kd.R_keptB (HO_261004.out) hkp (fun k_ hk_ hs_ => Or.elim hs_ (fun e_ => (hk_.1.1.2.1) e_) (fun e_ => (hk_.1.1.2.2.1) e_))) (fun k_ hk_ => ⟨hk_.1.1.1.1,hk_.1.1.1.2.1,hk_.1.1.1.2.2.1,hk_.1.1.1.2.2.2.1,hk_.1.1.1.2.2.2.2,hk_.1.1.2,hk_.1.2⟩)); have n2_ := zA (Kd.Q_reok rfl hy0 (fun k_ e_ => HO_271002.out.1 k_ e_)); have n3_ := zA (Kd.R_reok rfl hy1 (fun k_ e_ => HO_271004.out.1 k_ e_)); have n4_ := zA (Kd.Q_mono (ok' := fun k_ => some k_ ≠ (.slice Ao43 t252.length co43 : Value).ownBlock ∧ some k_ ≠ (.slice Ao46 t256.length co46 : Value).ownBlock ∧ some k_ ≠ (.slice Ao56 t263.length co56 : Value).ownBlock ∧ some k_ ≠ (.slice Ao57 t267.length co57 : Value).ownBlock ∧ some k_ ≠ (.slice Ao69 t280.length co69 : Value).ownBlock ∧ some k_ ≠ (.slice Ao101 t288.length co101 : Value).ownBlock ∧ some k_ ≠ (.slice Ao102 t292.length co102 : Value).ownBlock) (Kd.Q_keptB (HO_285002.out) hkp (fun k_ hk_ hs_ => Or.elim hs_ (fun e_ => (hk_.1.1.2.2.1) e_) (fun e_ => (hk_.1.1.2.2.2.1) e_))) (fun k_ hk_ => ⟨hk_.1.1.1.1,hk_.1.1.1.2.1,hk_.1.1.1.2.2.1,hk_.1.1.1.2.2.2.1,hk_.1.1.1.2.2.2.2,hk_.1.1.2,hk_.1.2⟩)); have n5_ := zA (zC (ok' := fun k_ => some k_ ≠ (.slice Ao43 t252.length co43 : Value).ownBlock ∧ some k_ ≠ (.slice Ao46 t256.length co46 : Value).ownBlock ∧ some k_ ≠ (.slice Ao56 t263.length co56 : Value).ownBlock ∧ some k_ ≠ (.slice Ao57 t267.length co57 : Value).ownBlock ∧ some k_ ≠ (.slice Ao66 t276.length co66 : Value).ownBlock ∧ some k_ ≠ (.slice Ao101 t288.length co101 : Value).ownBlock ∧ some k_ ≠ (.slice Ao102 t292.length co102 : Value).ownBlock) (Kd.R_keptB (HO_285004.out) hkp (fun k_ hk_ hs_ => Or.elim hs_ (fun e_ => (hk_.1.1.2.2.1) e_) (fun e_ => (hk_.1.1.2.2.2.1) e_))) (fun k_ hk_ => ⟨hk_.1.1.1.1,hk_.1.1.1.2.1,hk_.1.1.1.2.2.1,hk_.1.1.1.2.2.2.1,hk_.1.1.1.2.2.2.2,hk_.1.1.2,hk_.1.2⟩)); have n6_ := zA (zY (rrB19b BK234.out) hkp (fun hs_ => Or.elim hs_ (fun e_ => (fun e_ => (Kd.Q_ne HO_271002.out BK234.out (by decide)) e_) e_) (fun e_ => (fun e_ => (Kd.R_ne HO_271004.out BK234.out (by decide)) e_) e_))); have n7_ := zA (zY (rrB19b BK235.out) hkp (fun hs_ => Or.elim hs_ (fun e_ => (fun e_ => (Kd.Q_ne HO_271002.out BK235.out (by decide)) e_) e_) (fun e_ => (fun e_ => (Kd.R_ne HO_271004.out BK235.out (by decide)) e_) e_))); have n8_ := zA (zY (rrB19b BK260.out) hkp (fun hs_ => Or.elim hs_ (fun e_ => (fun e_ => (Kd.Q_ne HO_271002.out BK260.out (by decide)) e_) e_) (fun e_ => (fun e_ => (Kd.R_ne HO_271004.out BK260.out (by decide)) e_) e_))); have n9_ := zA (zY (rrB19b BK270.out) hkp (fun hs_ => Or.elim hs_ (fun e_ => (fun e_ => (Kd.Q_ne HO_271002.out BK270.out (by decide)) e_) e_) (fun e_ => (fun e_ => (Kd.R_ne HO_271004.out BK270.out (by decide)) e_) e_))); have n10_ := zA (zY (rrB19b BK284.out) hkp (fun hs_ => Or.elim hs_ (fun e_ => (fun e_ => (Kd.Q_ne HO_271002.out BK284.out (by decide)) e_) e_) (fun e_ => (fun e_ => (Kd.R_ne HO_271004.out BK284.out (by decide)) e_) e_))); have n11_ := zA (zC (ok' := fun k_ => some k_ ≠ (.slice Ao43 t252.length co43 : Value).ownBlock ∧ some k_ ≠ (.slice Ao46 t256.length co46 : Value).ownBlock ∧ some k_ ≠ (.slice Ao56 t263.length co56 : Value).ownBlock ∧ some k_ ≠ (.slice Ao57 t267.length co57 : Value).ownBlock ∧ some k_ ≠ (.slice Ao66 t276.length co66 : Value).ownBlock ∧ some k_ ≠ (.slice Ao69 t280.length co69 : Value).ownBlock ∧ some k_ ≠ (.slice Ao102 t292.length co102 : Value).ownBlock) (Kd.R_keptB (HO290.out) hkp (fun k_ hk_ hs_ => Or.elim hs_ (fun e_ => (hk_.1.1.1.2) e_) (fun e_ => (hk_.1.1.2) e_))) (fun k_ hk_ => ⟨hk_.1.1.1.1.1.1.2,hk_.1.1.1.1.1.2,hk_.1.1.1.1.2,hk_.1.1.1.2,hk_.1.1.2,hk_.1.2,hk_.1.1.1.1.1.1.1⟩)); have n12_ := zA (zC (ok' := fun k_ => some k_ ≠ (.slice Ao43 t252.length co43 : Value).ownBlock ∧ some k_ ≠ (.slice Ao46 t256.length co46 : Value).ownBlock ∧ some k_ ≠ (.slice Ao56 t263.length co56 : Value).ownBlock ∧ some k_ ≠ (.slice Ao57 t267.length co57 : Value).ownBlock ∧ some k_ ≠ (.slice Ao66 t276.length co66 : Value).ownBlock ∧ some k_ ≠ (.slice Ao69 t280.length co69 : Value).ownBlock ∧ some k_ ≠ (.slice Ao101 t288.length co101 : Value).ownBlock) (Kd.R_keptB (HO294.out) hkp (fun k_ hk_ hs_ => Or.elim hs_ (fun e_ => (hk_.1.1.1.2) e_) (fun e_ => (hk_.1.1.2) e_))) (fun k_ hk_ => ⟨hk_.1.1.1.1.1.1.2,hk_.1.1.1.1.1.2,hk_.1.1.1.1.2,hk_.1.1.1.2,hk_.1.1.2,hk_.1.2,hk_.1.1.1.1.1.1.1⟩)); have n13_ := zA (hb); clear HO_261002 HO_261004 HO_271002 HO_271004 HO_285002 HO_285004 BK234 BK235 BK260 BK270 BK284 HO290 HO294 HB; have HO_261002 := n0_; have HO_261004 := n1_; have HO_271002 := n2_; have HO_271004 := n3_; have HO_285002 := n4_; have HO_285004 := n5_; have BK234 := n6_; have BK235 := n7_; have BK260 := n8_; have BK270 := n9_; have BK284 := n10_; have HO290 := n11_; have HO294 := n12_; have HB := n13_; clear n0_ n1_ n2_ n3_ n4_ n5_ n6_ n7_ n8_ n9_ n10_ n11_ n12_ n13_; (try clear hb); (try clear hkp); (try clear hy0); (try clear hy1)))
         (try simp only [Act.put,List.setIfInBounds_toArray,List.set_cons_zero,List.set_cons_succ])
         go_cut [72] (fun v72 wc => ∃ (kq : Nat) (x72_97 : Bool),v72 = .bool x72_97 ∧ Aside0 (laws_FnExactReceive.j1 kq t259 x72_97 a0_0 a0_1 l0_2 a0_3 l0_4 a1_0 a1_1 a1_2 t250 t251 t252 t255 t256 t274 t275 t276 t279 t280 = some r) ∧ Aside0 (kq ≤ kj24) ∧ Aside0 (Kd.Q Kd.string 9 wc w.heap.size (fun k_ => some k_ ≠ ((.slice Ao46 t256.length co46) : Value).ownBlock ∧ some k_ ≠ ((.slice Ao56 t263.length co56) : Value).ownBlock ∧ some k_ ≠ ((.slice Ao57 t267.length co57) : Value).ownBlock ∧ some k_ ≠ ((.slice Ao66 t276.length co66) : Value).ownBlock ∧ some k_ ≠ ((.slice Ao69 t280.length co69) : Value).ownBlock) (.slice Ao43 t252.length co43) t252) ∧ Aside0 (Kd.R Kd.string 9 wc w.heap.size (fun k_ => some k_ ≠ ((.slice Ao43 t252.length co43) : Value).ownBlock ∧ some k_ ≠ ((.slice Ao56 t263.length co56) : Value).ownBlock ∧ some k_ ≠ ((.slice Ao57 t267.length co57) : Value).ownBlock ∧ some k_ ≠ ((.slice Ao66 t276.length co66) : Value).ownBlock ∧ some k_ ≠ ((.slice Ao69 t280.length co69) : Value).ownBlock) (.slice Ao46 t256.length co46) t256) ∧ Aside0 (Kd.Q Kd.string 9 wc w.heap.size (fun k_ => some k_ ≠ ((.slice Ao43 t252.length co43) : Value).ownBlock ∧ some k_ ≠ ((.slice Ao46 t256.length co46) : Value).ownBlock ∧ some k_ ≠ ((.slice Ao57 t267.length co57) : Value).ownBlock ∧ some k_ ≠ ((.slice Ao66 t276.length co66) : Value).ownBlock ∧ some k_ ≠ ((.slice Ao69 t280.length co69) : Value).ownBlock) (.slice Ao56 t263.length co56) t297) ∧ Aside0 (Kd.R Kd.string 9 wc w.heap.size (fun k_ => some k_ ≠ ((.slice Ao43 t252.length co43) : Value).ownBlock ∧ some k_ ≠ ((.slice Ao46 t256.length co46) : Value).ownBlock ∧ some k_ ≠ ((.slice Ao56 t263.length co56) : Value).ownBlock ∧ some k_ ≠ ((.slice Ao66 t276.length co66) : Value).ownBlock ∧ some k_ ≠ ((.slice Ao69 t280.length co69) : Value).ownBlock) (.slice Ao57 t267.length co57) t298) ∧ Aside0 (Kd.Q Kd.string 9 wc w.heap.size (fun k_ => some k_ ≠ ((.slice Ao43 t252.length co43) : Value).ownBlock ∧ some k_ ≠ ((.slice Ao46 t256.length co46) : Value).ownBlock ∧ some k_ ≠ ((.slice Ao56 t263.length co56) : Value).ownBlock ∧ some k_ ≠ ((.slice Ao57 t267.length co57) : Value).ownBlock ∧ some k_ ≠ ((.slice Ao69 t280.length co69) : Value).ownBlock) (.slice Ao66 t276.length co66) t276) ∧ Aside0 (Kd.R Kd.string 9 wc w.heap.size (fun k_ => some k_ ≠ ((.slice Ao43 t252.length co43) : Value).ownBlock ∧ some k_ ≠ ((.slice Ao46 t256.length co46) : Value).ownBlock ∧ some k_ ≠ ((.slice Ao56 t263.length co56) : Value).ownBlock ∧ some k_ ≠ ((.slice Ao57 t267.length co57) : Value).ownBlock ∧ some k_ ≠ ((.slice Ao66 t276.length co66) : Value).ownBlock) (.slice Ao69 t280.length co69) t280) ∧ Aside0 (wc.heap[gb234]? = some (.cells #[.int .i64 a0_0,.int .i64 a0_1,(.slice A0_2 l0_2.length c0_2),.int .i64 a0_3,(.slice A0_4 l0_4.length c0_4)] 24 (0,0))) ∧ Aside0 (wc.heap[gb235]? = some (.cells #[.int .i64 a1_0,.int .i64 a1_1,.string a1_2] 41 (0,0))) ∧ Aside0 (wc.heap[gb260]? = some (.cells #[.int .i64 t250,.int .i64 t251,(.slice Ao43 t252.length co43),.int .i64 t255,(.slice Ao46 t256.length co46)] 26 (0,0))) ∧ Aside0 (wc.heap[gb270]? = some (.cells #[.int .i64 t261,.int .i64 t262,(.slice Ao56 t263.length co56),.int .i64 t266,(.slice Ao57 t267.length co57)] 26 (0,0))) ∧ Aside0 (wc.heap[gb284]? = some (.cells #[.int .i64 t274,.int .i64 t275,(.slice Ao66 t276.length co66),.int .i64 t279,(.slice Ao69 t280.length co69)] 26 (0,0))) ∧ Aside0 (Below w.heap.size w wc))
         case first =>
          have H := HC98.out
          clear HC98
          by_cases c110 : t296 < 0
          ·
           rw [if_pos c110] at H
           have c110b0 : decide (t296 < 0) = true := decide_eq_true c110
           clear c110
           (first | rw [c110b0]|(simp only [i64_w,i32_w]; rw [c110b0])|skip)
           have H' := zA H
           clear H; go_wp2
           go_meet
           case rel => exact ⟨_,(true),(by first|rfl|(simp; done)|(simp [*]; done)),H',⟨by have := HJ24.out; first|omega|exact Nat.le_refl _⟩,⟨by (with_reducible repeat (first|apply Kd.Q_alloc|apply Kd.Q_drewN|apply Kd.Q_drew)); exact Kd.Q_mono HO_261002.out (fun _ hk => ⟨hk.1,⟨hk.2.1,⟨hk.2.2.1,⟨hk.2.2.2.1,hk.2.2.2.2.1⟩⟩⟩⟩)⟩,⟨by (with_reducible repeat (first|apply zJ|apply zK|apply zL)); exact zC HO_261004.out (fun _ hk => ⟨hk.1,⟨hk.2.1,⟨hk.2.2.1,⟨hk.2.2.2.1,hk.2.2.2.2.1⟩⟩⟩⟩)⟩,⟨by (with_reducible repeat (first|apply Kd.Q_alloc|apply Kd.Q_drewN|apply Kd.Q_drew)); exact Kd.Q_mono HO_271002.out (fun _ hk => ⟨hk.1.1.1,⟨hk.1.1.2.1,⟨hk.1.1.2.2.1,⟨hk.1.1.2.2.2.1,hk.1.1.2.2.2.2⟩⟩⟩⟩)⟩,⟨by (with_reducible repeat (first|apply zJ|apply zK|apply zL)); exact zC HO_271004.out (fun _ hk => ⟨hk.1.1.1,⟨hk.1.1.2.1,⟨hk.1.1.2.2.1,⟨hk.1.1.2.2.2.1,hk.1.1.2.2.2.2⟩⟩⟩⟩)⟩,⟨by (with_reducible repeat (first|apply Kd.Q_alloc|apply Kd.Q_drewN|apply Kd.Q_drew)); exact Kd.Q_mono HO_285002.out (fun _ hk => ⟨hk.1,⟨hk.2.1,⟨hk.2.2.1,⟨hk.2.2.2.1,hk.2.2.2.2.1⟩⟩⟩⟩)⟩,⟨by (with_reducible repeat (first|apply zJ|apply zK|apply zL)); exact zC HO_285004.out (fun _ hk => ⟨hk.1,⟨hk.2.1,⟨hk.2.2.1,⟨hk.2.2.2.1,hk.2.2.2.2.1⟩⟩⟩⟩)⟩,⟨(rrB19b BK234.out)⟩,⟨(rrB19b BK235.out)⟩,⟨(rrB19b BK260.out)⟩,⟨(rrB19b BK270.out)⟩,⟨(rrB19b BK284.out)⟩,⟨by repeat (first|(with_reducible first|exact HB.out|apply zO|apply zQ|apply zP|refine zN ?_ GE234.out|refine zN ?_ GE235.out|refine zN ?_ GE260.out|refine zN ?_ GE270.out|refine zN ?_ GE284.out)|exact HB.out)⟩⟩
          ·
           rw [if_neg c110] at H
           have c110b0 : decide (t296 < 0) = false := decide_eq_false c110
           clear c110
           (first | rw [c110b0]|(simp only [i64_w,i32_w]; rw [c110b0])|skip)
           replace H := Option.bind_eq_some_iff.mp H
           obtain ⟨t299,A1110,H⟩ := H
           replace H : (if t299 = true then (laws_FnExactReceive.j1 kj24 t259 (t283 != t259) a0_0 a0_1 l0_2 a0_3 l0_4 a1_0 a1_1 a1_2 t250 t251 t252 t255 t256 t274 t275 t276 t279 t280) else (laws_FnExactReceive.j1 kj24 t259 true a0_0 a0_1 l0_2 a0_3 l0_4 a1_0 a1_1 a1_2 t250 t251 t252 t255 t256 t274 t275 t276 t279 t280)) = some r := H
           have A111 := zA A1110
           clear A1110
           by_cases c112 : t299 = true
           ·
            subst c112
            have H1 : (laws_FnExactReceive.j1 kj24 t259 (t283 != t259) a0_0 a0_1 l0_2 a0_3 l0_4 a1_0 a1_1 a1_2 t250 t251 t252 t255 t256 t274 t275 t276 t279 t280) = some r := by rw [if_pos rfl] at H; exact H
            clear H; have H := H1; clear H1
            have H' := zA H
            clear H
            have hnb113 := NB284_234.out
            have hnc113 := NB234_284.out
            have hnb114 := NB284_235.out
            have hnc114 := NB235_284.out
            have hnb115 := NB284_260.out
            have hnc115 := NB260_284.out
            have hnb116 := NB284_270.out
            have hnc116 := NB270_284.out
            have hcz117_0 : w109.cell? ⟨gb284,0,none⟩ = some (.int .i64 t274) := (zW BK284.out 0).trans rfl
            have hcz117_1 : w109.cell? ⟨gb284,1,none⟩ = some (.int .i64 t275) := (zW BK284.out 1).trans rfl
            have hcz117_2 : w109.cell? ⟨gb284,2,none⟩ = some (.slice Ao66 t276.length co66) := (zW BK284.out 2).trans rfl
            have hcz117_3 : w109.cell? ⟨gb284,3,none⟩ = some (.int .i64 t279) := (zW BK284.out 3).trans rfl
            have hcz117_4 : w109.cell? ⟨gb284,4,none⟩ = some (.slice Ao69 t280.length co69) := (zW BK284.out 4).trans rfl
            have hfz117_0 := zU BK284.out 0
            have hfz117_1 := zU BK284.out 1
            have hfz117_2 := zU BK284.out 2
            have hfz117_3 := zU BK284.out 3
            have hfz117_4 := zU BK284.out 4
            have hnb118 := NB260_234.out
            have hnc118 := NB234_260.out
            have hnb119 := NB260_235.out
            have hnc119 := NB235_260.out
            have hnb120 := NB260_270.out
            have hnc120 := NB270_260.out
            have hcz121_0 : w109.cell? ⟨gb260,0,none⟩ = some (.int .i64 t250) := (zW BK260.out 0).trans rfl
            have hcz121_1 : w109.cell? ⟨gb260,1,none⟩ = some (.int .i64 t251) := (zW BK260.out 1).trans rfl
            have hcz121_2 : w109.cell? ⟨gb260,2,none⟩ = some (.slice Ao43 t252.length co43) := (zW BK260.out 2).trans rfl
            have hcz121_3 : w109.cell? ⟨gb260,3,none⟩ = some (.int .i64 t255) := (zW BK260.out 3).trans rfl
            have hcz121_4 : w109.cell? ⟨gb260,4,none⟩ = some (.slice Ao46 t256.length co46) := (zW BK260.out 4).trans rfl
            have hfz121_0 := zU BK260.out 0
            have hfz121_1 := zU BK260.out 1
            have hfz121_2 := zU BK260.out 2
            have hfz121_3 := zU BK260.out 3
            have hfz121_4 := zU BK260.out 4
            go_wp2_with (first | (go_at_call 15; (with_reducible refine (laws_eqEnd.calls kj24 t274 t275 _ _ t276 t279 _ _ t280 t250 t251 _ _ t252 t255 _ _ t256 true _ ?side1 ?side2 ?side3 ?side4 ?side5 ?side6 ?side7 ?side8 A111.out).mono ?_); (case side1 => repeat (first|exact (Kd.Q_reads' HO_285002.out).2.2|(with_reducible refine Kd.C_alloc ?_ _)|(with_reducible refine Kd.C_drewN ?_ _)|(with_reducible refine Kd.C_drew ?_))); (case side2 => exact (Kd.Q_reads' HO_285002.out).2.1); (case side3 => repeat (first|exact (zI HO_285004.out).2.2|(with_reducible refine Kd.C_alloc ?_ _)|(with_reducible refine Kd.C_drewN ?_ _)|(with_reducible refine Kd.C_drew ?_))); (case side4 => exact (zI HO_285004.out).2.1); (case side5 => repeat (first|exact (Kd.Q_reads' HO_261002.out).2.2|(with_reducible refine Kd.C_alloc ?_ _)|(with_reducible refine Kd.C_drewN ?_ _)|(with_reducible refine Kd.C_drew ?_))); (case side6 => exact (Kd.Q_reads' HO_261002.out).2.1); (case side7 => repeat (first|exact (zI HO_261004.out).2.2|(with_reducible refine Kd.C_alloc ?_ _)|(with_reducible refine Kd.C_drewN ?_ _)|(with_reducible refine Kd.C_drew ?_))); (case side8 => exact (zI HO_261004.out).2.1); rintro e w122 ⟨rfl,hb⟩; have n0_ := zA (Kd.Q_below (by (with_reducible repeat (first|apply Kd.Q_alloc|apply Kd.Q_drewN|apply Kd.Q_drew)); exact HO_261002.out) hb); have n1_ := zA (zD (rrA19b HO_261004.out) hb); have n2_ := zA (Kd.Q_below (by (with_reducible repeat (first|apply Kd.Q_alloc|apply Kd.Q_drewN|apply Kd.Q_drew)); exact HO_271002.out) hb); have n3_ := zA (zD (rrA19b HO_271004.out) hb); have n4_ := zA (Kd.Q_below (by (with_reducible repeat (first|apply Kd.Q_alloc|apply Kd.Q_drewN|apply Kd.Q_drew)); exact HO_285002.out) hb); have n5_ := zA (zD (rrA19b HO_285004.out) hb); have n6_ := zA (zD (rrA19b HO290.out) hb); have n7_ := zA (zD (rrA19b HO294.out) hb); have n8_ := zA (zV (g := gb234) (o := .cells #[.int .i64 a0_0,.int .i64 a0_1,.slice A0_2 l0_2.length c0_2,.int .i64 a0_3,.slice A0_4 l0_4.length c0_4] 24 (0,0)) (rrB19b BK234.out) hb); have n9_ := zA (zV (g := gb235) (o := .cells #[.int .i64 a1_0,.int .i64 a1_1,.string a1_2] 41 (0,0)) (rrB19b BK235.out) hb); have n10_ := zA (zV (g := gb260) (o := .cells #[.int .i64 t250,.int .i64 t251,.slice Ao43 t252.length co43,.int .i64 t255,.slice Ao46 t256.length co46] 26 (0,0)) (rrB19b BK260.out) hb); have n11_ := zA (zV (g := gb270) (o := .cells #[.int .i64 t261,.int .i64 t262,.slice Ao56 t263.length co56,.int .i64 t266,.slice Ao57 t267.length co57] 26 (0,0)) (rrB19b BK270.out) hb); have n12_ := zA (zV (g := gb284) (o := .cells #[.int .i64 t274,.int .i64 t275,.slice Ao66 t276.length co66,.int .i64 t279,.slice Ao69 t280.length co69] 26 (0,0)) (rrB19b BK284.out) hb); have n13_ := zA (zZ (by repeat (first|(with_reducible first|exact HB.out|apply zO|apply zQ|apply zP|refine zN ?_ GE234.out|refine zN ?_ GE235.out|refine zN ?_ GE260.out|refine zN ?_ GE270.out|refine zN ?_ GE284.out)|exact HB.out)) hb); clear HO_261002 HO_261004 HO_271002 HO_271004 HO_285002 HO_285004 HO290 HO294 BK234 BK235 BK260 BK270 BK284 HB; have HO_261002 := n0_; have HO_261004 := n1_; have HO_271002 := n2_; have HO_271004 := n3_; have HO_285002 := n4_; have HO_285004 := n5_; have HO290 := n6_; have HO294 := n7_; have BK234 := n8_; have BK235 := n9_; have BK260 := n10_; have BK270 := n11_; have BK284 := n12_; have HB := n13_; clear n0_ n1_ n2_ n3_ n4_ n5_ n6_ n7_ n8_ n9_ n10_ n11_ n12_ n13_; (try clear hb); (try clear hb2); (try clear hk); (try clear hi)))
            go_meet
            case rel => exact ⟨_,((t283 != t259)),(by first|rfl|(simp; done)|(simp [*]; done)),H',⟨by have := HJ24.out; first|omega|exact Nat.le_refl _⟩,⟨by (with_reducible repeat (first|apply Kd.Q_alloc|apply Kd.Q_drewN|apply Kd.Q_drew)); exact Kd.Q_mono HO_261002.out (fun _ hk => ⟨hk.1,⟨hk.2.1,⟨hk.2.2.1,⟨hk.2.2.2.1,hk.2.2.2.2.1⟩⟩⟩⟩)⟩,⟨by (with_reducible repeat (first|apply zJ|apply zK|apply zL)); exact zC HO_261004.out (fun _ hk => ⟨hk.1,⟨hk.2.1,⟨hk.2.2.1,⟨hk.2.2.2.1,hk.2.2.2.2.1⟩⟩⟩⟩)⟩,⟨by (with_reducible repeat (first|apply Kd.Q_alloc|apply Kd.Q_drewN|apply Kd.Q_drew)); exact Kd.Q_mono HO_271002.out (fun _ hk => ⟨hk.1.1.1,⟨hk.1.1.2.1,⟨hk.1.1.2.2.1,⟨hk.1.1.2.2.2.1,hk.1.1.2.2.2.2⟩⟩⟩⟩)⟩,⟨by (with_reducible repeat (first|apply zJ|apply zK|apply zL)); exact zC HO_271004.out (fun _ hk => ⟨hk.1.1.1,⟨hk.1.1.2.1,⟨hk.1.1.2.2.1,⟨hk.1.1.2.2.2.1,hk.1.1.2.2.2.2⟩⟩⟩⟩)⟩,⟨by (with_reducible repeat (first|apply Kd.Q_alloc|apply Kd.Q_drewN|apply Kd.Q_drew)); exact Kd.Q_mono HO_285002.out (fun _ hk => ⟨hk.1,⟨hk.2.1,⟨hk.2.2.1,⟨hk.2.2.2.1,hk.2.2.2.2.1⟩⟩⟩⟩)⟩,⟨by (with_reducible repeat (first|apply zJ|apply zK|apply zL)); exact zC HO_285004.out (fun _ hk => ⟨hk.1,⟨hk.2.1,⟨hk.2.2.1,⟨hk.2.2.2.1,hk.2.2.2.2.1⟩⟩⟩⟩)⟩,⟨(rrB19b BK234.out)⟩,⟨(rrB19b BK235.out)⟩,⟨(rrB19b BK260.out)⟩,⟨(rrB19b BK270.out)⟩,⟨(rrB19b BK284.out)⟩,⟨by repeat (first|(with_reducible first|exact HB.out|apply zO|apply zQ|apply zP|refine zN ?_ GE234.out|refine zN ?_ GE235.out|refine zN ?_ GE260.out|refine zN ?_ GE270.out|refine zN ?_ GE284.out)|exact HB.out)⟩⟩
           ·
            replace c112 := Bool.eq_false_iff.mpr c112
            subst c112
            have H1 : (laws_FnExactReceive.j1 kj24 t259 true a0_0 a0_1 l0_2 a0_3 l0_4 a1_0 a1_1 a1_2 t250 t251 t252 t255 t256 t274 t275 t276 t279 t280) = some r := by rw [if_neg (show ¬ (false = true) by decide)] at H; exact H
            clear H; have H := H1; clear H1
            have H' := zA H
            clear H
            have hnb123 := NB284_234.out
            have hnc123 := NB234_284.out
            have hnb124 := NB284_235.out
            have hnc124 := NB235_284.out
            have hnb125 := NB284_260.out
            have hnc125 := NB260_284.out
            have hnb126 := NB284_270.out
            have hnc126 := NB270_284.out
            have hcz127_0 : w109.cell? ⟨gb284,0,none⟩ = some (.int .i64 t274) := (zW BK284.out 0).trans rfl
            have hcz127_1 : w109.cell? ⟨gb284,1,none⟩ = some (.int .i64 t275) := (zW BK284.out 1).trans rfl
            have hcz127_2 : w109.cell? ⟨gb284,2,none⟩ = some (.slice Ao66 t276.length co66) := (zW BK284.out 2).trans rfl
            have hcz127_3 : w109.cell? ⟨gb284,3,none⟩ = some (.int .i64 t279) := (zW BK284.out 3).trans rfl
            have hcz127_4 : w109.cell? ⟨gb284,4,none⟩ = some (.slice Ao69 t280.length co69) := (zW BK284.out 4).trans rfl
            have hfz127_0 := zU BK284.out 0
            have hfz127_1 := zU BK284.out 1
            have hfz127_2 := zU BK284.out 2
            have hfz127_3 := zU BK284.out 3
            have hfz127_4 := zU BK284.out 4
            have hnb128 := NB260_234.out
            have hnc128 := NB234_260.out
            have hnb129 := NB260_235.out
            have hnc129 := NB235_260.out
            have hnb130 := NB260_270.out
            have hnc130 := NB270_260.out
            have hcz131_0 : w109.cell? ⟨gb260,0,none⟩ = some (.int .i64 t250) := (zW BK260.out 0).trans rfl
            have hcz131_1 : w109.cell? ⟨gb260,1,none⟩ = some (.int .i64 t251) := (zW BK260.out 1).trans rfl
            have hcz131_2 : w109.cell? ⟨gb260,2,none⟩ = some (.slice Ao43 t252.length co43) := (zW BK260.out 2).trans rfl
            have hcz131_3 : w109.cell? ⟨gb260,3,none⟩ = some (.int .i64 t255) := (zW BK260.out 3).trans rfl
            have hcz131_4 : w109.cell? ⟨gb260,4,none⟩ = some (.slice Ao46 t256.length co46) := (zW BK260.out 4).trans rfl
            have hfz131_0 := zU BK260.out 0
            have hfz131_1 := zU BK260.out 1
            have hfz131_2 := zU BK260.out 2
            have hfz131_3 := zU BK260.out 3
            have hfz131_4 := zU BK260.out 4
            go_wp2_with (first | (go_at_call 15; (with_reducible refine (laws_eqEnd.calls kj24 t274 t275 _ _ t276 t279 _ _ t280 t250 t251 _ _ t252 t255 _ _ t256 false _ ?side1 ?side2 ?side3 ?side4 ?side5 ?side6 ?side7 ?side8 A111.out).mono ?_); (case side1 => repeat (first|exact (Kd.Q_reads' HO_285002.out).2.2|(with_reducible refine Kd.C_alloc ?_ _)|(with_reducible refine Kd.C_drewN ?_ _)|(with_reducible refine Kd.C_drew ?_))); (case side2 => exact (Kd.Q_reads' HO_285002.out).2.1); (case side3 => repeat (first|exact (zI HO_285004.out).2.2|(with_reducible refine Kd.C_alloc ?_ _)|(with_reducible refine Kd.C_drewN ?_ _)|(with_reducible refine Kd.C_drew ?_))); (case side4 => exact (zI HO_285004.out).2.1); (case side5 => repeat (first|exact (Kd.Q_reads' HO_261002.out).2.2|(with_reducible refine Kd.C_alloc ?_ _)|(with_reducible refine Kd.C_drewN ?_ _)|(with_reducible refine Kd.C_drew ?_))); (case side6 => exact (Kd.Q_reads' HO_261002.out).2.1); (case side7 => repeat (first|exact (zI HO_261004.out).2.2|(with_reducible refine Kd.C_alloc ?_ _)|(with_reducible refine Kd.C_drewN ?_ _)|(with_reducible refine Kd.C_drew ?_))); (case side8 => exact (zI HO_261004.out).2.1); rintro e w132 ⟨rfl,hb⟩; have n0_ := zA (Kd.Q_below (by (with_reducible repeat (first|apply Kd.Q_alloc|apply Kd.Q_drewN|apply Kd.Q_drew)); exact HO_261002.out) hb); have n1_ := zA (zD (rrA19b HO_261004.out) hb); have n2_ := zA (Kd.Q_below (by (with_reducible repeat (first|apply Kd.Q_alloc|apply Kd.Q_drewN|apply Kd.Q_drew)); exact HO_271002.out) hb); have n3_ := zA (zD (rrA19b HO_271004.out) hb); have n4_ := zA (Kd.Q_below (by (with_reducible repeat (first|apply Kd.Q_alloc|apply Kd.Q_drewN|apply Kd.Q_drew)); exact HO_285002.out) hb); have n5_ := zA (zD (rrA19b HO_285004.out) hb); have n6_ := zA (zD (rrA19b HO290.out) hb); have n7_ := zA (zD (rrA19b HO294.out) hb); have n8_ := zA (zV (g := gb234) (o := .cells #[.int .i64 a0_0,.int .i64 a0_1,.slice A0_2 l0_2.length c0_2,.int .i64 a0_3,.slice A0_4 l0_4.length c0_4] 24 (0,0)) (rrB19b BK234.out) hb); have n9_ := zA (zV (g := gb235) (o := .cells #[.int .i64 a1_0,.int .i64 a1_1,.string a1_2] 41 (0,0)) (rrB19b BK235.out) hb); have n10_ := zA (zV (g := gb260) (o := .cells #[.int .i64 t250,.int .i64 t251,.slice Ao43 t252.length co43,.int .i64 t255,.slice Ao46 t256.length co46] 26 (0,0)) (rrB19b BK260.out) hb); have n11_ := zA (zV (g := gb270) (o := .cells #[.int .i64 t261,.int .i64 t262,.slice Ao56 t263.length co56,.int .i64 t266,.slice Ao57 t267.length co57] 26 (0,0)) (rrB19b BK270.out) hb); have n12_ := zA (zV (g := gb284) (o := .cells #[.int .i64 t274,.int .i64 t275,.slice Ao66 t276.length co66,.int .i64 t279,.slice Ao69 t280.length co69] 26 (0,0)) (rrB19b BK284.out) hb); have n13_ := zA (zZ (by repeat (first|(with_reducible first|exact HB.out|apply zO|apply zQ|apply zP|refine zN ?_ GE234.out|refine zN ?_ GE235.out|refine zN ?_ GE260.out|refine zN ?_ GE270.out|refine zN ?_ GE284.out)|exact HB.out)) hb); clear HO_261002 HO_261004 HO_271002 HO_271004 HO_285002 HO_285004 HO290 HO294 BK234 BK235 BK260 BK270 BK284 HB; have HO_261002 := n0_; have HO_261004 := n1_; have HO_271002 := n2_; have HO_271004 := n3_; have HO_285002 := n4_; have HO_285004 := n5_; have HO290 := n6_; have HO294 := n7_; have BK234 := n8_; have BK235 := n9_; have BK260 := n10_; have BK270 := n11_; have BK284 := n12_; have HB := n13_; clear n0_ n1_ n2_ n3_ n4_ n5_ n6_ n7_ n8_ n9_ n10_ n11_ n12_ n13_; (try clear hb); (try clear hb2); (try clear hk); (try clear hi)))
            go_meet
            case rel => exact ⟨_,(true),(by first|rfl|(simp; done)|(simp [*]; done)),H',⟨by have := HJ24.out; first|omega|exact Nat.le_refl _⟩,⟨by (with_reducible repeat (first|apply Kd.Q_alloc|apply Kd.Q_drewN|apply Kd.Q_drew)); exact Kd.Q_mono HO_261002.out (fun _ hk => ⟨hk.1,⟨hk.2.1,⟨hk.2.2.1,⟨hk.2.2.2.1,hk.2.2.2.2.1⟩⟩⟩⟩)⟩,⟨by (with_reducible repeat (first|apply zJ|apply zK|apply zL)); exact zC HO_261004.out (fun _ hk => ⟨hk.1,⟨hk.2.1,⟨hk.2.2.1,⟨hk.2.2.2.1,hk.2.2.2.2.1⟩⟩⟩⟩)⟩,⟨by (with_reducible repeat (first|apply Kd.Q_alloc|apply Kd.Q_drewN|apply Kd.Q_drew)); exact Kd.Q_mono HO_271002.out (fun _ hk => ⟨hk.1.1.1,⟨hk.1.1.2.1,⟨hk.1.1.2.2.1,⟨hk.1.1.2.2.2.1,hk.1.1.2.2.2.2⟩⟩⟩⟩)⟩,⟨by (with_reducible repeat (first|apply zJ|apply zK|apply zL)); exact zC HO_271004.out (fun _ hk => ⟨hk.1.1.1,⟨hk.1.1.2.1,⟨hk.1.1.2.2.1,⟨hk.1.1.2.2.2.1,hk.1.1.2.2.2.2⟩⟩⟩⟩)⟩,⟨by (with_reducible repeat (first|apply Kd.Q_alloc|apply Kd.Q_drewN|apply Kd.Q_drew)); exact Kd.Q_mono HO_285002.out (fun _ hk => ⟨hk.1,⟨hk.2.1,⟨hk.2.2.1,⟨hk.2.2.2.1,hk.2.2.2.2.1⟩⟩⟩⟩)⟩,⟨by (with_reducible repeat (first|apply zJ|apply zK|apply zL)); exact zC HO_285004.out (fun _ hk => ⟨hk.1,⟨hk.2.1,⟨hk.2.2.1,⟨hk.2.2.2.1,hk.2.2.2.2.1⟩⟩⟩⟩)⟩,⟨(rrB19b BK234.out)⟩,⟨(rrB19b BK235.out)⟩,⟨(rrB19b BK260.out)⟩,⟨(rrB19b BK270.out)⟩,⟨(rrB19b BK284.out)⟩,⟨by repeat (first|(with_reducible first|exact HB.out|apply zO|apply zQ|apply zP|refine zN ?_ GE234.out|refine zN ?_ GE235.out|refine zN ?_ GE260.out|refine zN ?_ GE270.out|refine zN ?_ GE284.out)|exact HB.out)⟩⟩
         case rest =>
          rename_i xx1_0 xx1_1 xx1_2 xx1_3 xx1_4 xx1_5 xx1_6 xx1_7 xx1_8 xx1_9 xx1_10 xx1_11 xx1_12 xx1_13 xx1_14 xx1_15 xx1_16 xx1_17 xx1_18 xx1_19 xx1_20 xx1_21 xx1_22 xx1_23 xx1_24 xx1_25 xx1_26 xx1_27 xx1_28 xx1_29 xx1_30 xx1_31 xx1_32 xx1_33 xx1_34 xx1_35 xx1_36 xx1_37 xx1_38 xx1_39 xx1_40 xx1_41 xx1_42 xx1_43 xx1_44 xx1_45 xx1_46 xx1_47 xx1_48 xx1_49 xx1_50 xx1_51 xx1_52 xx1_53 xx1_54 xx1_55 xx1_56 xx1_57 xx1_58 xx1_59 xx1_60 xx1_61 xx1_62 xx1_63 xx1_64 xx1_65 xx1_66 xx1_67 xx1_68 xx1_69 xx1_70 xx1_71 xx1_72 xx1_73 xx1_74 xx1_75 xx1_76 xx1_77 xx1_78 xx1_79 xx1_80 xx1_81 xx1_82 xx1_83 xx1_84 xx1_85 xx1_86 xx1_87 xx1_88 xx1_89 xx1_90 xx1_91 xx1_92 xx1_93 xx1_94 xx1_95 xx1_96 xx1_97 xx1_98 xx1_99 xx1_100 xx1_101 xx1_102 xx1_103 xx1_104 xx1_105
          revert hu24 hu41 hu26 HR0_2 HC0_2 HR0_4 HC0_4 t236 A3 c4b0 t237 A10 c11b0 t238 t239 t240 t243 t244 A19 t247 t248 t249 A20 t250 t251 t252 t255 t256 t259 A21 t261 t262 t263 t266 t267 A22 t271 t272 t273 A23 t274 t275 t276 t279 t280 t283 A24 xx0_0 gb234 w26 GW234 GE234 gb235 w27 GW235 GE235 NB234_235 NB235_234 hnb28 hnc28 hcz29_0 hcz29_1 hcz29_2 hcz29_3 hcz29_4 hfz29_0 hfz29_1 hfz29_2 hfz29_3 hfz29_4 w30 hcz31_0 hcz31_1 hcz31_2 hfz31_0 hfz31_1 hfz31_2 w32 xx0_1 xx0_2 w33 xx0_3 v241 v245 gb260 w40 xx0_4 GW260 GE260 NB234_260 NB260_234 NB235_260 NB260_235 xx0_5 Ao43 co43 Ao46 co46 hs41 hfs41 hns41_0 hns41_1 hms41_0 hms41_1 hs42 hfs42 hns42_0 hns42_1 hms42_0 hms42_1 hs44 hfs44 hns44_0 hns44_1 hms44_0 hms44_1 hs45 hfs45 hns45_0 hns45_1 hms45_0 hms45_1 hs47 hfs47 hns47_0 hns47_1 hms47_0 hms47_1 xx0_6 hnb48 hnc48 hcz49_0 hcz49_1 hcz49_2 hcz49_3 hcz49_4 hfz49_0 hfz49_1 hfz49_2 hfz49_3 hfz49_4 w50 gb270 w51 GW270 GE270 NB234_270 NB270_234 NB235_270 NB270_235 NB260_270 NB270_260 hnb52 hnc52 hnb53 hnc53 hnb54 hnc54 hcz55_0 hcz55_1 hcz55_2 hcz55_3 hcz55_4 hfz55_0 hfz55_1 hfz55_2 hfz55_3 hfz55_4 Ao56 co56 Ao57 co57 w58 HT_ HW_ w59 xx0_7 gb284 w63 hS_ xx1_0 xx1_1 xx1_2 xx1_3 xx1_4 GW284 GE284 NB234_284 NB284_234 NB235_284 NB284_235 NB260_284 NB284_260 NB270_284 NB284_270 xx1_5 xx0_8 Ao66 co66 xx0_9 Ao69 co69 HO242 HO246 HO254 HO258 HO265 HO269 HO278 HO282 hs64 hfs64 hns64_0 hns64_1 hns64_2 hns64_3 hms64_0 hms64_1 hms64_2 hms64_3 hs65 hfs65 hns65_0 hns65_1 hns65_2 hns65_3 hms65_0 hms65_1 hms65_2 hms65_3 hs67 hfs67 hns67_0 hns67_1 hns67_2 hns67_3 hms67_0 hms67_1 hms67_2 hms67_3 hs68 hfs68 hns68_0 hns68_1 hns68_2 hns68_3 hms68_0 hms68_1 hms68_2 hms68_3 hs70 hfs70 hns70_0 hns70_1 hns70_2 hns70_3 hms70_0 hms70_1 hms70_2 hms70_3 xx1_6 xx1_7 xx1_8 xx1_9 xx1_10 xx1_11 xx1_12 xx1_13 xx1_14 xx1_15 xx1_16 xx1_17 xx1_18 xx1_19 xx1_20 xx1_21 xx1_22 xx1_23 xx1_24 xx1_25 xx1_26 xx1_27 xx1_28 xx1_29 xx1_30 xx1_31 xx1_32 xx1_33 xx1_34 xx1_35 xx1_36 xx1_37 xx1_38 xx1_39 xx1_40 xx1_41 xx1_42 xx1_43 xx1_44 xx1_45 xx1_46 xx1_47 xx1_48 xx1_49 xx1_50 xx1_51 xx1_52 xx1_53 xx1_54 xx1_55 xx1_56 xx1_57 xx1_58 xx1_59 xx1_60 xx1_61 xx1_62 xx1_63 xx1_64 xx1_65 xx1_66 xx1_67 xx1_68 xx1_69 xx1_70 xx1_71 xx1_72 xx1_73 xx1_74 xx1_75 xx1_76 xx1_77 xx1_78 xx1_79 xx1_80 xx1_81 xx1_82 xx1_83 xx1_84 xx1_85 xx1_86 xx1_87 xx1_88 xx1_89 xx1_90 xx1_91 xx1_92 xx1_93 xx1_94 xx1_95 xx1_96 xx1_97 xx1_98 xx1_99 kj24 HJ24 t286 t287 t288 t291 t292 A94 A95 t296 t297 t298 A97 HC98 w99 xx1_100 w100 Ao101 co101 Ao102 co102 xx1_101 w103 hHeld hnb104 hnc104 hnb105 hnc105 hnb106 hnc106 hnb107 hnc107 hcz108_0 hcz108_1 hcz108_2 hcz108_3 hcz108_4 hfz108_0 hfz108_1 hfz108_2 hfz108_3 hfz108_4 w109 HO_261002 HO_261004 HO_271002 HO_271004 HO_285002 HO_285004 BK234 BK235 BK260 BK270 BK284 HO290 HO294 HB xx1_102 xx1_103 xx1_104 xx1_105 wc u16 u17 u18 u19 u20 u21 u22 u23 u24 u25 u26 u27 u28 u29 u30 u31 u32 u33 u34 u35 u36 u37 u38 u39 u40 u41 u42 u43 u44 u45 u46 u47 u48 u49 u50 u51 u52 u53 u54 u55 u56 u57 u58 u59 u60 u61 u62 u63 u64 u65 u66 u67 u68 u69 u70 u71 u72 u73 u74 u75 u76 u77 u78 u79 u80 u81 u82 u83 u84 u85 u86 u87 u88 u89 u90 u91 u92 u93 u94 u95 u96 u97 u98 u99 u100 u101 u102 u103 u104 u105 u106 u107 u108 hcut
          exact hG_ ()
        ·
         replace c96 := Bool.eq_false_iff.mpr c96
         subst c96
         have H1 : (some false) = some r := by rw [if_neg (show ¬ (false = true) by decide)] at H; exact H
         clear H; have H := H1; clear H1
         obtain rfl := Option.some.inj H
         try go_wp2
         have n0_ := zA (Kd.Q_drew HO_261002.out)
         have n1_ := zA (zL HO_261004.out)
         have n2_ := zA (Kd.Q_drew HO_271002.out)
         have n3_ := zA (zL HO_271004.out)
         have n4_ := zA (Kd.Q_drew HO_285002.out)
         have n5_ := zA (zL HO_285004.out)
         have n6_ := zA (zT BK234.out)
         have n7_ := zA (zT BK235.out)
         have n8_ := zA (zT BK260.out)
         have n9_ := zA (zT BK270.out)
         have n10_ := zA (zT BK284.out)
         have n11_ := zA (zP HB.out)
         clear HO_261002 HO_261004 HO_271002 HO_271004 HO_285002 HO_285004 BK234 BK235 BK260 BK270 BK284 HB
         have HO_261002 := n0_
         have HO_261004 := n1_
         have HO_271002 := n2_
         have HO_271004 := n3_
         have HO_285002 := n4_
         have HO_285004 := n5_
         have BK234 := n6_
         have BK235 := n7_
         have BK260 := n8_
         have BK270 := n9_
         have BK284 := n10_
         have HB := n11_
         clear n0_ n1_ n2_ n3_ n4_ n5_ n6_ n7_ n8_ n9_ n10_ n11_
         refine start_ (n := 5) (S := fun w' => w'.cell? ⟨gb270,0,none⟩ = some (.int .i64 t261) ∧ w'.cell? ⟨gb270,1,none⟩ = some (.int .i64 t262) ∧ w'.cell? ⟨gb270,2,none⟩ = some (.slice Ao56 t263.length co56) ∧ w'.cell? ⟨gb270,3,none⟩ = some (.int .i64 t266) ∧ w'.cell? ⟨gb270,4,none⟩ = some (.slice Ao57 t267.length co57) ∧ w'.cell? ⟨gb234,0,none⟩ = some (.int .i64 a0_0) ∧ w'.cell? ⟨gb234,1,none⟩ = some (.int .i64 a0_1) ∧ w'.cell? ⟨gb234,2,none⟩ = some (.slice A0_2 l0_2.length c0_2) ∧ w'.cell? ⟨gb234,3,none⟩ = some (.int .i64 a0_3) ∧ w'.cell? ⟨gb234,4,none⟩ = some (.slice A0_4 l0_4.length c0_4)) (ds := []) #[false,false,false,false,false] (by kernel_rfl) rfl rfl ⟨(zW BK270.out 0).trans rfl,(zW BK270.out 1).trans rfl,(zW BK270.out 2).trans rfl,(zW BK270.out 3).trans rfl,(zW BK270.out 4).trans rfl,(zW BK234.out 0).trans rfl,(zW BK234.out 1).trans rfl,(zW BK234.out 2).trans rfl,(zW BK234.out 3).trans rfl,(zW BK234.out 4).trans rfl⟩ (fun hHeld => ?_)
         generalize wc.drew = w232 at HO_261002 HO_261004 HO_271002 HO_271004 HO_285002 HO_285004 BK234 BK235 BK260 BK270 BK284 HB hHeld ⊢
         refine take_ (i := 0) (N := some 52) (v := ?_) (a' := ?_) #[true,false,false,false,false] rfl rfl (by kernel_rfl) (fun _ _ _ h => h) (Or.inl ⟨by rfl,?_⟩) hHeld ?_ ?_; rotate_left
         ·
          rintro w' ⟨s0,s1,s2,s3,s4,s5,s6,s7,s8,s9⟩
          go_simp; with_reducible rfl
         rotate_left
         · simp only [Act.put,List.setIfInBounds_toArray,List.set_cons_zero,List.set_cons_succ,i64_w,i32_w]; rfl
         refine take_ (i := 1) (N := some 53) (v := ?_) (a' := ?_) #[true,true,false,false,false] rfl rfl (by kernel_rfl) (fun _ _ _ h => h) (Or.inl ⟨by rfl,?_⟩) hHeld ?_ ?_; rotate_left
         ·
          rintro w' ⟨s0,s1,s2,s3,s4,s5,s6,s7,s8,s9⟩
          go_simp; with_reducible rfl
         rotate_left
         · simp only [Act.put,List.setIfInBounds_toArray,List.set_cons_zero,List.set_cons_succ,i64_w,i32_w]; rfl
         refine one_ (i := 2) (N := some 54) #[true,true,true,false,false] rfl rfl (by kernel_rfl) (by decide) (fun K hK => ?_)
         refine goes_ Try.func13 (by kernel_rfl) rfl #[.agg #[.int .i64 a0_0,.int .i64 a0_1,.slice A0_2 l0_2.length c0_2,.int .i64 a0_3,.slice A0_4 l0_4.length c0_4]] (by rfl) rfl rfl (by (try simp only [List.map_toArray,List.map_cons,List.map_nil]); first | done|rfl|(simp only [List.length_drop,List.length_take]; rfl)) ?_
         with_reducible refine (laws_toEnd.calls kj24 a0_0 a0_1 _ _ l0_2 a0_3 _ _ l0_4 t286 t287 t288 t291 t292 _ ?side1 ?side2 ?side3 ?side4 A94.out).mono ?_
         (case side1 => repeat (first|exact (Kd.C_below HR0_2.out HB.out)|(with_reducible refine Kd.C_alloc ?_ _)|(with_reducible refine Kd.C_drewN ?_ _)|(with_reducible refine Kd.C_drew ?_)))
         (case side2 => exact HC0_2.out)
         (case side3 => repeat (first|exact (Kd.C_below HR0_4.out HB.out)|(with_reducible refine Kd.C_alloc ?_ _)|(with_reducible refine Kd.C_drewN ?_ _)|(with_reducible refine Kd.C_drew ?_)))
         (case side4 => exact HC0_4.out)
         rintro e w233 ⟨v289,v293,rfl,ho0,ho1,hb⟩
         refine ⟨_,rfl,?_⟩
         have n0_ := zA (Kd.Q_mono (Kd.Q_told (Kd.Q_told (Kd.Q_old (by (with_reducible repeat (first|apply Kd.Q_alloc|apply Kd.Q_drewN|apply Kd.Q_drew)); exact HO_261002.out) hb) (zF ho0)) (zF ho1)) (fun _ h_ => h_.1))
         have n1_ := zA (zC (zE (zE (zM (rrA19b HO_261004.out) hb) (zF ho0)) (zF ho1)) (fun _ h_ => h_.1))
         have n2_ := zA (Kd.Q_mono (Kd.Q_told (Kd.Q_told (Kd.Q_old (by (with_reducible repeat (first|apply Kd.Q_alloc|apply Kd.Q_drewN|apply Kd.Q_drew)); exact HO_271002.out) hb) (zF ho0)) (zF ho1)) (fun _ h_ => h_.1))
         have n3_ := zA (zC (zE (zE (zM (rrA19b HO_271004.out) hb) (zF ho0)) (zF ho1)) (fun _ h_ => h_.1))
         have n4_ := zA (Kd.Q_mono (Kd.Q_told (Kd.Q_told (Kd.Q_old (by (with_reducible repeat (first|apply Kd.Q_alloc|apply Kd.Q_drewN|apply Kd.Q_drew)); exact HO_285002.out) hb) (zF ho0)) (zF ho1)) (fun _ h_ => h_.1))
         have n5_ := zA (zC (zE (zE (zM (rrA19b HO_285004.out) hb) (zF ho0)) (zF ho1)) (fun _ h_ => h_.1))
         have n6_ := zA (Kd.R_lower (zG (zG (zG (zG (zG (zG ho0 (Kd.Q_lt (by (with_reducible repeat (first|apply Kd.Q_alloc|apply Kd.Q_drewN|apply Kd.Q_drew)); exact HO_261002.out))) (Kd.R_lt (rrA19b HO_261004.out))) (Kd.Q_lt (by (with_reducible repeat (first|apply Kd.Q_alloc|apply Kd.Q_drewN|apply Kd.Q_drew)); exact HO_271002.out))) (Kd.R_lt (rrA19b HO_271004.out))) (Kd.Q_lt (by (with_reducible repeat (first|apply Kd.Q_alloc|apply Kd.Q_drewN|apply Kd.Q_drew)); exact HO_285002.out))) (Kd.R_lt (rrA19b HO_285004.out))) (below_size (by repeat (first|(with_reducible first|exact HB.out|apply zO|apply zQ|apply zP|refine zN ?_ GE234.out|refine zN ?_ GE235.out|refine zN ?_ GE260.out|refine zN ?_ GE270.out|refine zN ?_ GE284.out)|exact HB.out))))
         have n7_ := zA (Kd.R_lower (zG (zG (zG (zG (zG (zG ho1 (Kd.Q_lt (by (with_reducible repeat (first|apply Kd.Q_alloc|apply Kd.Q_drewN|apply Kd.Q_drew)); exact HO_261002.out))) (Kd.R_lt (rrA19b HO_261004.out))) (Kd.Q_lt (by (with_reducible repeat (first|apply Kd.Q_alloc|apply Kd.Q_drewN|apply Kd.Q_drew)); exact HO_271002.out))) (Kd.R_lt (rrA19b HO_271004.out))) (Kd.Q_lt (by (with_reducible repeat (first|apply Kd.Q_alloc|apply Kd.Q_drewN|apply Kd.Q_drew)); exact HO_285002.out))) (Kd.R_lt (rrA19b HO_285004.out))) (below_size (by repeat (first|(with_reducible first|exact HB.out|apply zO|apply zQ|apply zP|refine zN ?_ GE234.out|refine zN ?_ GE235.out|refine zN ?_ GE260.out|refine zN ?_ GE270.out|refine zN ?_ GE284.out)|exact HB.out))))
         have n8_ := zA (zV (g := gb234) (o := .cells #[.int .i64 a0_0,.int .i64 a0_1,.slice A0_2 l0_2.length c0_2,.int .i64 a0_3,.slice A0_4 l0_4.length c0_4] 24 (0,0)) (rrB19b BK234.out) hb)
         have n9_ := zA (zV (g := gb235) (o := .cells #[.int .i64 a1_0,.int .i64 a1_1,.string a1_2] 41 (0,0)) (rrB19b BK235.out) hb)
         have n10_ := zA (zV (g := gb260) (o := .cells #[.int .i64 t250,.int .i64 t251,.slice Ao43 t252.length co43,.int .i64 t255,.slice Ao46 t256.length co46] 26 (0,0)) (rrB19b BK260.out) hb)
         have n11_ := zA (zV (g := gb270) (o := .cells #[.int .i64 t261,.int .i64 t262,.slice Ao56 t263.length co56,.int .i64 t266,.slice Ao57 t267.length co57] 26 (0,0)) (rrB19b BK270.out) hb)
         have n12_ := zA (zV (g := gb284) (o := .cells #[.int .i64 t274,.int .i64 t275,.slice Ao66 t276.length co66,.int .i64 t279,.slice Ao69 t280.length co69] 26 (0,0)) (rrB19b BK284.out) hb)
         have n13_ := zA (zZ (by repeat (first|(with_reducible first|exact HB.out|apply zO|apply zQ|apply zP|refine zN ?_ GE234.out|refine zN ?_ GE235.out|refine zN ?_ GE260.out|refine zN ?_ GE270.out|refine zN ?_ GE284.out)|exact HB.out)) hb)
         clear HO_261002 HO_261004 HO_271002 HO_271004 HO_285002 HO_285004 BK234 BK235 BK260 BK270 BK284 HB
         have HO_261002 := n0_
         have HO_261004 := n1_
         have HO_271002 := n2_
         have HO_271004 := n3_
         have HO_285002 := n4_
         have HO_285004 := n5_
         have HO290 := n6_
         have HO294 := n7_
         have BK234 := n8_
         have BK235 := n9_
         have BK260 := n10_
         have BK270 := n11_
         have BK284 := n12_
         have HB := n13_
         clear n0_ n1_ n2_ n3_ n4_ n5_ n6_ n7_ n8_ n9_ n10_ n11_ n12_ n13_
         (try clear hb)
         (try clear hb2)
         (try clear hk)
         (try clear hi)
         (try clear ho0)
         (try clear ho1)
         obtain ⟨Ao234,co234,eo234⟩ := Kd.R_slice HO290.out
         (first | subst eo234 | (injection eo234 with f1_ f2_ f3_; have f4_ := f1_.symm; have f5_ := f3_.symm; clear f1_ f2_ f3_; subst f4_; subst f5_))
         obtain ⟨Ao235,co235,eo235⟩ := Kd.R_slice HO294.out
         (first | subst eo235 | (injection eo235 with f1_ f2_ f3_; have f4_ := f1_.symm; have f5_ := f3_.symm; clear f1_ f2_ f3_; subst f4_; subst f5_))
         refine hK.out _ _ ⟨(zW BK270.out 0).trans rfl,(zW BK270.out 1).trans rfl,(zW BK270.out 2).trans rfl,(zW BK270.out 3).trans rfl,(zW BK270.out 4).trans rfl,(zW BK234.out 0).trans rfl,(zW BK234.out 1).trans rfl,(zW BK234.out 2).trans rfl,(zW BK234.out 3).trans rfl,(zW BK234.out 4).trans rfl⟩ (fun hHeld => ?_)
         clear hK K
         refine norm_ (a' := ?_) ?_ ?_
         rotate_left
         ·
          show Act.put _ (some 54) _ = _
          simp only [Act.put,List.setIfInBounds_toArray,List.set_cons_zero,List.set_cons_succ,i64_w,i32_w]; rfl
         refine one_ (i := 3) (N := some 55) #[true,true,true,true,false] rfl rfl (by kernel_rfl) (by decide) (fun K hK => ?_)
         refine goes_ Try.func15 (by kernel_rfl) rfl #[.agg #[.int .i64 t261,.int .i64 t262,.slice Ao56 t263.length co56,.int .i64 t266,.slice Ao57 t267.length co57],.agg #[.int .i64 t286,.int .i64 t287,.slice Ao234 t288.length co234,.int .i64 t291,.slice Ao235 t292.length co235]] (by rfl) rfl rfl (by (try simp only [List.map_toArray,List.map_cons,List.map_nil]); first | done|rfl|(simp only [List.length_drop,List.length_take]; rfl)) ?_
         with_reducible refine (laws_eqEnd.calls kj24 t261 t262 _ _ t263 t266 _ _ t267 t286 t287 _ _ t288 t291 _ _ t292 false _ ?side1 ?side2 ?side3 ?side4 ?side5 ?side6 ?side7 ?side8 A95.out).mono ?_
         (case side1 => repeat (first|exact (Kd.Q_reads' HO_271002.out).2.2|(with_reducible refine Kd.C_alloc ?_ _)|(with_reducible refine Kd.C_drewN ?_ _)|(with_reducible refine Kd.C_drew ?_)))
         (case side2 => exact (Kd.Q_reads' HO_271002.out).2.1)
         (case side3 => repeat (first|exact (zI HO_271004.out).2.2|(with_reducible refine Kd.C_alloc ?_ _)|(with_reducible refine Kd.C_drewN ?_ _)|(with_reducible refine Kd.C_drew ?_)))
         (case side4 => exact (zI HO_271004.out).2.1)
         (case side5 => repeat (first|exact (zI HO290.out).2.2|(with_reducible refine Kd.C_alloc ?_ _)|(with_reducible refine Kd.C_drewN ?_ _)|(with_reducible refine Kd.C_drew ?_)))
         (case side6 => exact (zI HO290.out).2.1)
         (case side7 => repeat (first|exact (zI HO294.out).2.2|(with_reducible refine Kd.C_alloc ?_ _)|(with_reducible refine Kd.C_drewN ?_ _)|(with_reducible refine Kd.C_drew ?_)))
         (case side8 => exact (zI HO294.out).2.1)
         rintro e w236 ⟨rfl,hb⟩
         refine ⟨_,rfl,?_⟩
         have n0_ := zA (Kd.Q_below (by (with_reducible repeat (first|apply Kd.Q_alloc|apply Kd.Q_drewN|apply Kd.Q_drew)); exact HO_261002.out) hb)
         have n1_ := zA (zD (rrA19b HO_261004.out) hb)
         have n2_ := zA (Kd.Q_below (by (with_reducible repeat (first|apply Kd.Q_alloc|apply Kd.Q_drewN|apply Kd.Q_drew)); exact HO_271002.out) hb)
         have n3_ := zA (zD (rrA19b HO_271004.out) hb)
         have n4_ := zA (Kd.Q_below (by (with_reducible repeat (first|apply Kd.Q_alloc|apply Kd.Q_drewN|apply Kd.Q_drew)); exact HO_285002.out) hb)
         have n5_ := zA (zD (rrA19b HO_285004.out) hb)
         have n6_ := zA (zD (rrA19b HO290.out) hb)
         have n7_ := zA (zD (rrA19b HO294.out) hb)
         have n8_ := zA (zV (g := gb234) (o := .cells #[.int .i64 a0_0,.int .i64 a0_1,.slice A0_2 l0_2.length c0_2,.int .i64 a0_3,.slice A0_4 l0_4.length c0_4] 24 (0,0)) (rrB19b BK234.out) hb)
         have n9_ := zA (zV (g := gb235) (o := .cells #[.int .i64 a1_0,.int .i64 a1_1,.string a1_2] 41 (0,0)) (rrB19b BK235.out) hb)
         have n10_ := zA (zV (g := gb260) (o := .cells #[.int .i64 t250,.int .i64 t251,.slice Ao43 t252.length co43,.int .i64 t255,.slice Ao46 t256.length co46] 26 (0,0)) (rrB19b BK260.out) hb)
         have n11_ := zA (zV (g := gb270) (o := .cells #[.int .i64 t261,.int .i64 t262,.slice Ao56 t263.length co56,.int .i64 t266,.slice Ao57 t267.length co57] 26 (0,0)) (rrB19b BK270.out) hb)
         have n12_ := zA (zV (g := gb284) (o := .cells #[.int .i64 t274,.int .i64 t275,.slice Ao66 t276.length co66,.int .i64 t279,.slice Ao69 t280.length co69] 26 (0,0)) (rrB19b BK284.out) hb)
         have n13_ := zA (zZ (by repeat (first|(with_reducible first|exact HB.out|apply zO|apply zQ|apply zP|refine zN ?_ GE234.out|refine zN ?_ GE235.out|refine zN ?_ GE260.out|refine zN ?_ GE270.out|refine zN ?_ GE284.out)|exact HB.out)) hb)
         clear HO_261002 HO_261004 HO_271002 HO_271004 HO_285002 HO_285004 HO290 HO294 BK234 BK235 BK260 BK270 BK284 HB
         have HO_261002 := n0_
         have HO_261004 := n1_
         have HO_271002 := n2_
         have HO_271004 := n3_
         have HO_285002 := n4_
         have HO_285004 := n5_
         have HO290 := n6_
         have HO294 := n7_
         have BK234 := n8_
         have BK235 := n9_
         have BK260 := n10_
         have BK270 := n11_
         have BK284 := n12_
         have HB := n13_
         clear n0_ n1_ n2_ n3_ n4_ n5_ n6_ n7_ n8_ n9_ n10_ n11_ n12_ n13_
         (try clear hb)
         (try clear hb2)
         (try clear hk)
         (try clear hi)
         refine hK.out _ _ ⟨(zW BK270.out 0).trans rfl,(zW BK270.out 1).trans rfl,(zW BK270.out 2).trans rfl,(zW BK270.out 3).trans rfl,(zW BK270.out 4).trans rfl,(zW BK234.out 0).trans rfl,(zW BK234.out 1).trans rfl,(zW BK234.out 2).trans rfl,(zW BK234.out 3).trans rfl,(zW BK234.out 4).trans rfl⟩ (fun hHeld => ?_)
         clear hK K
         refine norm_ (a' := ?_) ?_ ?_
         rotate_left
         ·
          show Act.put _ (some 55) _ = _
          simp only [Act.put,List.setIfInBounds_toArray,List.set_cons_zero,List.set_cons_succ,i64_w,i32_w]; rfl
         refine pure_ (i := 4) (N := some 56) (v := ?_) (a' := ?_) #[true,true,true,true,true] rfl rfl (by kernel_rfl) (fun _ _ _ h => h) (Or.inl ⟨by rfl,?_⟩) ?_ ?_; rotate_left
         · intro w'; go_simp; with_reducible rfl
         rotate_left
         · simp only [Act.put,List.setIfInBounds_toArray,List.set_cons_zero,List.set_cons_succ,i64_w,i32_w]; rfl
         refine done_ (by kernel_rfl) ?_
         try go_wp2
         go_ret
         exact ⟨by first|rfl|(simp [errW_none,errW_some] <;> rfl)|(simp [*,errW_none,errW_some] <;> rfl),by repeat (first|(with_reducible first|exact HB.out|apply zO|apply zQ|apply zP|refine zN ?_ GE234.out|refine zN ?_ GE235.out|refine zN ?_ GE260.out|refine zN ?_ GE270.out|refine zN ?_ GE284.out)|exact HB.out)⟩
 
end Go.Proofs.Ytlidnobkkgcnlaa.PFnExactReceive
