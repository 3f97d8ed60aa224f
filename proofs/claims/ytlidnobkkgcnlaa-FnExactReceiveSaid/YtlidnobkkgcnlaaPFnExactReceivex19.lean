-- Written by a program out of the translation,for this claim.
import Derived.Test.YtlidnobkkgcnlaaPFnExactReceivex0
import Derived.Test.YtlidnobkkgcnlaaPFnExactReceivex1
import Derived.Test.YtlidnobkkgcnlaaPFnExactReceivex2
import Derived.Test.YtlidnobkkgcnlaaPFnExactReceivex4
import Derived.Test.YtlidnobkkgcnlaaPFnExactReceivex7
import Derived.Test.YtlidnobkkgcnlaaPFnExactReceivex9
import Derived.Test.YtlidnobkkgcnlaaPFnExactReceivex13
import Derived.Test.YtlidnobkkgcnlaaPFnExactReceivex17
import Derived.Test.YtlidnobkkgcnlaaPFnExactReceivex18
import Derived.Test.YtlidnobkkgcnlaaPFnExactReceivex61
namespace Go.Proofs.Ytlidnobkkgcnlaa.PFnExactReceive
open Go.RowKit Go.Proofs.YtlidnobkkgcnlaaW.PrintWords Go.Proofs.YtlidnobkkgcnlaaW.PrintLast Go.Proofs.YtlidnobkkgcnlaaW.PrintMore
attribute [local go_sem] max2_int min2_int max_two min_two max_three min_three max_four min_four   -- for this text's walks alone
set_option linter.unusedVariables false
set_option linter.unusedSimpArgs false
theorem rrA19c {p q : Prop} (h : p) (f : p → q := by (intro h_; (with_reducible repeat (first | apply Kd.R_alloc | apply Kd.R_drewN | apply Kd.R_drew)); exact h_)) : q := f h
theorem rrB19c {p q : Prop} (h : p) (f : p → q := by (intro h_; (with_reducible repeat (first | refine blk_drewN ?_ _ | refine blk_drew ?_ | refine blk_alloc ?_ _)); exact h_)) : q := f h
open Go.Proofs.YtlidnobkkgcnlaaW.PrintWords.Aside0 renaming mk → zA
open Go.Proofs.YtlidnobkkgcnlaaW.PrintWords.Kd renaming R_far → zB
open Go.Proofs.YtlidnobkkgcnlaaW.PrintWords.Kd renaming R_mono → zC
open Go.Proofs.YtlidnobkkgcnlaaW.PrintWords.Kd renaming R_below → zD
open Go.Proofs.YtlidnobkkgcnlaaW.PrintMore.Kd renaming R_told → zE
open Go.Proofs.YtlidnobkkgcnlaaW.PrintWords.Kd renaming R_base → zF
open Go.Proofs.YtlidnobkkgcnlaaW.PrintWords.Kd renaming R_new' → zG
open Go.Proofs.YtlidnobkkgcnlaaW.PrintWords.Kd renaming R_types → zH
open Go.Proofs.YtlidnobkkgcnlaaW.PrintWords.Kd renaming R_reads' → zI
open Go.Proofs.YtlidnobkkgcnlaaW.PrintWords.Kd renaming R_alloc → zJ
open Go.Proofs.YtlidnobkkgcnlaaW.PrintWords.Kd renaming R_drewN → zK
open Go.Proofs.YtlidnobkkgcnlaaW.PrintWords.Kd renaming R_drew → zL
open Go.Proofs.YtlidnobkkgcnlaaW.PrintMore.Kd renaming R_old → zM
open Go.Proofs.YtlidnobkkgcnlaaW.PrintWords renaming below_set → zN
open Go.Proofs.YtlidnobkkgcnlaaW.PrintWords renaming below_alloc → zO
open Go.Proofs.YtlidnobkkgcnlaaW.PrintWords renaming below_drew1 → zP
open Go.Proofs.YtlidnobkkgcnlaaW.PrintWords renaming pw_below_drewN → zQ
open Go.Proofs.YtlidnobkkgcnlaaW.PrintWords renaming blk_drewN → zR
open Go.Proofs.YtlidnobkkgcnlaaW.PrintWords renaming blk_alloc → zS
open Go.Proofs.YtlidnobkkgcnlaaW.PrintWords renaming blk_drew → zT
open Go.Proofs.YtlidnobkkgcnlaaW.PrintWords renaming blk_frozen → zU
open Go.Proofs.YtlidnobkkgcnlaaW.PrintWords renaming blk_below → zV
open Go.Proofs.YtlidnobkkgcnlaaW.PrintWords renaming blk_cell → zW
open Go.Proofs.YtlidnobkkgcnlaaW.PrintWords renaming blk_far → zX
open Go.Proofs.YtlidnobkkgcnlaaW.PrintWords renaming blk_kept → zY
open Go.Proofs.YtlidnobkkgcnlaaW.PrintWords renaming below_step → zZ
/-! ### laws_FnExactReceive.calls, part 2 -/
set_option maxHeartbeats 8000000 in
set_option maxRecDepth 100000 in
theorem laws_FnExactReceive.rest2 (k : Nat) (a0_0 : Int) (a0_1 : Int) (A0_2 : Option Addr) (c0_2 : Nat) (l0_2 : List ByteArray) (a0_3 : Int) (A0_4 : Option Addr) (c0_4 : Nat) (l0_4 : List ByteArray) (a1_0 : Int) (a1_1 : Int) (a1_2 : ByteArray) (r : Bool) (w : World) : (laws_FnExactReceive.cut1 k a0_0 a0_1 A0_2 c0_2 l0_2 a0_3 A0_4 c0_4 l0_4 a1_0 a1_1 a1_2 r w).1 := by
         intro hu24 hu41 hu26 HR0_2 HC0_2 HR0_4 HC0_4 t236 A3 c4b0 t237 A10 c11b0 t238 t239 t240 t243 t244 A19 t247 t248 t249 A20 t250 t251 t252 t255 t256 t259 A21 t261 t262 t263 t266 t267 A22 t271 t272 t273 A23 t274 t275 t276 t279 t280 t283 A24 xx0_0 gb234 w26 GW234 GE234 gb235 w27 GW235 GE235 NB234_235 NB235_234 hnb28 hnc28 hcz29_0 hcz29_1 hcz29_2 hcz29_3 hcz29_4 hfz29_0 hfz29_1 hfz29_2 hfz29_3 hfz29_4 w30 hcz31_0 hcz31_1 hcz31_2 hfz31_0 hfz31_1 hfz31_2 w32 xx0_1 xx0_2 w33 xx0_3 v241 v245 gb260 w40 xx0_4 GW260 GE260 NB234_260 NB260_234 NB235_260 NB260_235 xx0_5 Ao43 co43 Ao46 co46 hs41 hfs41 hns41_0 hns41_1 hms41_0 hms41_1 hs42 hfs42 hns42_0 hns42_1 hms42_0 hms42_1 hs44 hfs44 hns44_0 hns44_1 hms44_0 hms44_1 hs45 hfs45 hns45_0 hns45_1 hms45_0 hms45_1 hs47 hfs47 hns47_0 hns47_1 hms47_0 hms47_1 xx0_6 hnb48 hnc48 hcz49_0 hcz49_1 hcz49_2 hcz49_3 hcz49_4 hfz49_0 hfz49_1 hfz49_2 hfz49_3 hfz49_4 w50 gb270 w51 GW270 GE270 NB234_270 NB270_234 NB235_270 NB270_235 NB260_270 NB270_260 hnb52 hnc52 hnb53 hnc53 hnb54 hnc54 hcz55_0 hcz55_1 hcz55_2 hcz55_3 hcz55_4 hfz55_0 hfz55_1 hfz55_2 hfz55_3 hfz55_4 Ao56 co56 Ao57 co57 w58 HT_ HW_ w59 xx0_7 gb284 w63 hS_ xx1_0 xx1_1 xx1_2 xx1_3 xx1_4 GW284 GE284 NB234_284 NB284_234 NB235_284 NB284_235 NB260_284 NB284_260 NB270_284 NB284_270 xx1_5 xx0_8 Ao66 co66 xx0_9 Ao69 co69 HO242 HO246 HO254 HO258 HO265 HO269 HO278 HO282 hs64 hfs64 hns64_0 hns64_1 hns64_2 hns64_3 hms64_0 hms64_1 hms64_2 hms64_3 hs65 hfs65 hns65_0 hns65_1 hns65_2 hns65_3 hms65_0 hms65_1 hms65_2 hms65_3 hs67 hfs67 hns67_0 hns67_1 hns67_2 hns67_3 hms67_0 hms67_1 hms67_2 hms67_3 hs68 hfs68 hns68_0 hns68_1 hns68_2 hns68_3 hms68_0 hms68_1 hms68_2 hms68_3 hs70 hfs70 hns70_0 hns70_1 hns70_2 hns70_3 hms70_0 hms70_1 hms70_2 hms70_3 xx1_6 xx1_7 xx1_8 xx1_9 xx1_10 xx1_11 xx1_12 xx1_13 xx1_14 xx1_15 xx1_16 xx1_17 xx1_18 xx1_19 xx1_20 xx1_21 xx1_22 xx1_23 xx1_24 xx1_25 xx1_26 xx1_27 xx1_28 xx1_29 xx1_30 xx1_31 xx1_32 xx1_33 xx1_34 xx1_35 xx1_36 xx1_37 xx1_38 xx1_39 xx1_40 xx1_41 xx1_42 xx1_43 xx1_44 xx1_45 xx1_46 xx1_47 xx1_48 xx1_49 xx1_50 xx1_51 xx1_52 xx1_53 xx1_54 xx1_55 xx1_56 xx1_57 xx1_58 xx1_59 xx1_60 xx1_61 xx1_62 xx1_63 xx1_64 xx1_65 xx1_66 xx1_67 xx1_68 xx1_69 xx1_70 xx1_71 xx1_72 xx1_73 xx1_74 xx1_75 xx1_76 xx1_77 xx1_78 xx1_79 xx1_80 xx1_81 xx1_82 xx1_83 xx1_84 xx1_85 xx1_86 xx1_87 xx1_88 xx1_89 xx1_90 xx1_91 xx1_92 xx1_93 xx1_94 xx1_95 xx1_96 xx1_97 xx1_98 xx1_99 kj24 HJ24 t286 t287 t288 t291 t292 A94 A95 t296 t297 t298 A97 HC98 w99 xx1_100 w100 Ao101 co101 Ao102 co102 xx1_101 w103 hHeld hnb104 hnc104 hnb105 hnc105 hnb106 hnc106 hnb107 hnc107 hcz108_0 hcz108_1 hcz108_2 hcz108_3 hcz108_4 hfz108_0 hfz108_1 hfz108_2 hfz108_3 hfz108_4 w109 HO_261002 HO_261004 HO_271002 HO_271004 HO_285002 HO_285004 BK234 BK235 BK260 BK270 BK284 HO290 HO294 HB xx1_102 xx1_103 xx1_104 xx1_105 wc u16 u17 u18 u19 u20 u21 u22 u23 u24 u25 u26 u27 u28 u29 u30 u31 u32 u33 u34 u35 u36 u37 u38 u39 u40 u41 u42 u43 u44 u45 u46 u47 u48 u49 u50 u51 u52 u53 u54 u55 u56 u57 u58 u59 u60 u61 u62 u63 u64 u65 u66 u67 u68 u69 u70 u71 u72 u73 u74 u75 u76 u77 u78 u79 u80 u81 u82 u83 u84 u85 u86 u87 u88 u89 u90 u91 u92 u93 u94 u95 u96 u97 u98 u99 u100 u101 u102 u103 u104 u105 u106 u107 u108 hcut
         clear HC98; try clear c1; try clear c2; try clear p2; try clear c7; try clear c8; try clear c9; try clear c10; try clear c11; try clear c12; try clear c13; try clear c15; try clear c16; try clear c20; try clear c25; try clear c72; try clear c73; try clear c74; try clear c75; try clear c76; try clear c78; try clear c79; try clear c80; try clear c83; try clear c84; try clear c85; try clear c86; try clear c88; try clear c89; try clear c90; try clear c93; try clear c96; try clear c104; try clear c105; try clear c106; try clear c107; try clear c110; try clear c110b0; try clear c112; try clear c113; try clear c114; try clear c115; try clear c116; try clear c118; try clear c119; try clear c120; try clear c123; try clear c124; try clear c125; try clear c126; try clear c128; try clear c129; try clear c130; try clear hcz108_0; try clear hcz108_1; try clear hcz108_2; try clear hcz108_3; try clear hcz108_4; try clear hcz117_0; try clear hcz117_1; try clear hcz117_2; try clear hcz117_3; try clear hcz117_4; try clear hcz121_0; try clear hcz121_1; try clear hcz121_2; try clear hcz121_3; try clear hcz121_4; try clear hcz127_0; try clear hcz127_1; try clear hcz127_2; try clear hcz127_3; try clear hcz127_4; try clear hcz131_0; try clear hcz131_1; try clear hcz131_2; try clear hcz131_3; try clear hcz131_4; try clear hcz77_0; try clear hcz77_1; try clear hcz77_2; try clear hcz77_3; try clear hcz77_4; try clear hcz81_0; try clear hcz81_1; try clear hcz81_2; try clear hcz81_3; try clear hcz81_4; try clear hcz87_0; try clear hcz87_1; try clear hcz87_2; try clear hcz87_3; try clear hcz87_4; try clear hcz91_0; try clear hcz91_1; try clear hcz91_2; try clear hcz91_3; try clear hcz91_4; try clear hfz108_0; try clear hfz108_1; try clear hfz108_2; try clear hfz108_3; try clear hfz108_4; try clear hfz117_0; try clear hfz117_1; try clear hfz117_2; try clear hfz117_3; try clear hfz117_4; try clear hfz121_0; try clear hfz121_1; try clear hfz121_2; try clear hfz121_3; try clear hfz121_4; try clear hfz127_0; try clear hfz127_1; try clear hfz127_2; try clear hfz127_3; try clear hfz127_4; try clear hfz131_0; try clear hfz131_1; try clear hfz131_2; try clear hfz131_3; try clear hfz131_4; try clear hfz77_0; try clear hfz77_1; try clear hfz77_2; try clear hfz77_3; try clear hfz77_4; try clear hfz81_0; try clear hfz81_1; try clear hfz81_2; try clear hfz81_3; try clear hfz81_4; try clear hfz87_0; try clear hfz87_1; try clear hfz87_2; try clear hfz87_3; try clear hfz87_4; try clear hfz91_0; try clear hfz91_1; try clear hfz91_2; try clear hfz91_3; try clear hfz91_4; try clear p2
         obtain ⟨kq,x72_97,rfl,HA,HJ97,HO_261002,HO_261004,HO_271002,HO_271004,HO_285002,HO_285004,BK234,BK235,BK260,BK270,BK284,HB⟩ := hcut
         have hl271002_97 := (Kd.Q_reads' HO_271002.out).1
         rw [hl271002_97] at HO_271002
         (try simp only [hl271002_97])
         (try simp only [hl271002_97] at BK234)
         (try simp only [hl271002_97] at BK235)
         (try simp only [hl271002_97] at BK260)
         (try simp only [hl271002_97] at BK270)
         (try simp only [hl271002_97] at BK284)
         (try simp only [hl271002_97] at HO_261002)
         (try simp only [hl271002_97] at HO_261004)
         (try simp only [hl271002_97] at HO_271004)
         (try simp only [hl271002_97] at HO_285002)
         (try simp only [hl271002_97] at HO_285004)
         have hl271004_97 := (zI HO_271004.out).1
         rw [hl271004_97] at HO_271004
         (try simp only [hl271004_97])
         (try simp only [hl271004_97] at BK234)
         (try simp only [hl271004_97] at BK235)
         (try simp only [hl271004_97] at BK260)
         (try simp only [hl271004_97] at BK270)
         (try simp only [hl271004_97] at BK284)
         (try simp only [hl271004_97] at HO_261002)
         (try simp only [hl271004_97] at HO_261004)
         (try simp only [hl271004_97] at HO_271002)
         (try simp only [hl271004_97] at HO_285002)
         (try simp only [hl271004_97] at HO_285004)
         cases kq with
         | zero => exact absurd HA.out (by simp [laws_FnExactReceive.j1])
         | succ kj97 =>
          have H := HA.out
          clear HA
          simp only [laws_FnExactReceive.j1] at H
          by_cases c133 : x72_97 = true
          ·
           subst c133
           have H1 : (some false) = some r := by rw [if_pos rfl] at H; exact H
           clear H; have H := H1; clear H1
           obtain rfl := Option.some.inj H
           go_wp2
           go_ret
           exact ⟨by first|rfl|(simp [errW_none,errW_some] <;> rfl)|(simp [*,errW_none,errW_some] <;> rfl),by repeat (first|(with_reducible first|exact HB.out|apply zO|apply zQ|apply zP|refine zN ?_ GE234.out|refine zN ?_ GE235.out|refine zN ?_ GE260.out|refine zN ?_ GE270.out|refine zN ?_ GE284.out)|exact HB.out)⟩
          ·
           replace c133 := Bool.eq_false_iff.mpr c133
           subst c133
           have H1 : ((laws_markEnd.f kj97 t274 t275 t276 t279 t280 1).bind fun bt300 => ((laws_heldEnd.f kj97 t274 t275 bt300.2.1 t279 bt300.2.2 1).bind fun t303 => (if t303 < 0 then (some false) else (if t303 = bt300.1 then ((laws_toEnd.f kj97 a0_0 a0_1 l0_2 a0_3 l0_4).bind fun bt304 => ((laws_toParcel.f a1_0 a1_1 a1_2).bind fun bt313 => ((impl_Receive.f kj97 bt304.1 bt304.2.1 bt304.2.2.1 bt304.2.2.2.1 bt304.2.2.2.2 bt313.1 bt313.2.1 bt313.2.2).bind fun bt316 => ((laws_eqEnd.f kj97 bt316.1 bt316.2.1 bt316.2.2.1 bt316.2.2.2.1 bt316.2.2.2.2.1 t250 t251 t252 t255 t256).bind fun t327 => (if t327 = true then (laws_FnExactReceive.j2 kj97 bt300.1 (bt316.2.2.2.2.2 != t259) t274 t275 bt300.2.1 t279 bt300.2.2) else (laws_FnExactReceive.j2 kj97 bt300.1 true t274 t275 bt300.2.1 t279 bt300.2.2)))))) else (some false))))) = some r := by rw [if_neg (show ¬ (false = true) by decide)] at H; exact H
           clear H; have H := H1; clear H1
           replace H := Option.bind_eq_some_iff.mp H
           obtain ⟨⟨t300,t301,t302⟩,A1340,H⟩ := H
           replace H : ((laws_heldEnd.f kj97 t274 t275 t301 t279 t302 1).bind fun t303 => (if t303 < 0 then (some false) else (if t303 = t300 then ((laws_toEnd.f kj97 a0_0 a0_1 l0_2 a0_3 l0_4).bind fun bt304 => ((laws_toParcel.f a1_0 a1_1 a1_2).bind fun bt313 => ((impl_Receive.f kj97 bt304.1 bt304.2.1 bt304.2.2.1 bt304.2.2.2.1 bt304.2.2.2.2 bt313.1 bt313.2.1 bt313.2.2).bind fun bt316 => ((laws_eqEnd.f kj97 bt316.1 bt316.2.1 bt316.2.2.1 bt316.2.2.2.1 bt316.2.2.2.2.1 t250 t251 t252 t255 t256).bind fun t327 => (if t327 = true then (laws_FnExactReceive.j2 kj97 t300 (bt316.2.2.2.2.2 != t259) t274 t275 t301 t279 t302) else (laws_FnExactReceive.j2 kj97 t300 true t274 t275 t301 t279 t302)))))) else (some false)))) = some r := H
           have A134 := zA A1340
           clear A1340
           replace H := Option.bind_eq_some_iff.mp H
           obtain ⟨t303,A1350,H⟩ := H
           replace H : (if t303 < 0 then (some false) else (if t303 = t300 then ((laws_toEnd.f kj97 a0_0 a0_1 l0_2 a0_3 l0_4).bind fun bt304 => ((laws_toParcel.f a1_0 a1_1 a1_2).bind fun bt313 => ((impl_Receive.f kj97 bt304.1 bt304.2.1 bt304.2.2.1 bt304.2.2.2.1 bt304.2.2.2.2 bt313.1 bt313.2.1 bt313.2.2).bind fun bt316 => ((laws_eqEnd.f kj97 bt316.1 bt316.2.1 bt316.2.2.1 bt316.2.2.2.1 bt316.2.2.2.2.1 t250 t251 t252 t255 t256).bind fun t327 => (if t327 = true then (laws_FnExactReceive.j2 kj97 t300 (bt316.2.2.2.2.2 != t259) t274 t275 t301 t279 t302) else (laws_FnExactReceive.j2 kj97 t300 true t274 t275 t301 t279 t302)))))) else (some false))) = some r := H
           have A135 := zA A1350
           clear A1350
           by_cases c136 : t303 < 0
           ·
            rw [if_pos c136] at H
            have c136b0 : decide (t303 < 0) = true := decide_eq_true c136
            clear c136
            obtain rfl := Option.some.inj H
            have hnb137 := NB284_234.out
            have hnc137 := NB234_284.out
            have hnb138 := NB284_235.out
            have hnc138 := NB235_284.out
            have hnb139 := NB284_260.out
            have hnc139 := NB260_284.out
            have hnb140 := NB284_270.out
            have hnc140 := NB270_284.out
            have hcz141_0 : wc.cell? ⟨gb284,0,none⟩ = some (.int .i64 t274) := (zW BK284.out 0).trans rfl
            have hcz141_1 : wc.cell? ⟨gb284,1,none⟩ = some (.int .i64 t275) := (zW BK284.out 1).trans rfl
            have hcz141_2 : wc.cell? ⟨gb284,2,none⟩ = some (.slice Ao66 t276.length co66) := (zW BK284.out 2).trans rfl
            have hcz141_3 : wc.cell? ⟨gb284,3,none⟩ = some (.int .i64 t279) := (zW BK284.out 3).trans rfl
            have hcz141_4 : wc.cell? ⟨gb284,4,none⟩ = some (.slice Ao69 t280.length co69) := (zW BK284.out 4).trans rfl
            have hfz141_0 := zU BK284.out 0
            have hfz141_1 := zU BK284.out 1
            have hfz141_2 := zU BK284.out 2
            have hfz141_3 := zU BK284.out 3
            have hfz141_4 := zU BK284.out 4
            go_wp2_with (first | ((with_reducible refine gate_callee (f := 16) rfl ?_); refine goesL_ (some 75) rfl rfl Try.func16 (by kernel_rfl) rfl #[.agg #[.int .i64 t274,.int .i64 t275,.slice Ao66 t276.length co66,.int .i64 t279,.slice Ao69 t280.length co69],.int .i64 1] rfl (by (try simp only [List.map_toArray,List.map_cons,List.map_nil]); first | done|rfl|(simp only [List.length_drop,List.length_take]; rfl)) ?_; (with_reducible refine (laws_markEnd.calls kj97 t274 t275 (fun k_ => some k_ = (.slice Ao66 t276.length co66 : Value).ownBlock) (.slice Ao66 t276.length co66) t276 t279 (fun k_ => some k_ = (.slice Ao69 t280.length co69 : Value).ownBlock) (.slice Ao69 t280.length co69) t280 1 t300 t301 t302 w _ ?side1 ?side2 ?side3 ?side4 ?side5 A134.out).mono ?_); (case side1 => repeat (first|(with_reducible first|exact HB.out|apply zO|apply zQ|apply zP|refine zN ?_ GE234.out|refine zN ?_ GE235.out|refine zN ?_ GE260.out|refine zN ?_ GE270.out|refine zN ?_ GE284.out)|exact HB.out)); (case side2 => exact Kd.Q_tight rfl HO_285002.out); (case side3 => exact fun k_ e_ => (HO_285002.out.1 k_ e_.symm).2.2.2.2); (case side4 => exact Kd.R_tight rfl HO_285004.out); (case side5 => exact fun k_ e_ => (HO_285004.out.1 k_ e_.symm).2.2.2.2); rintro e w142 ⟨rfl,hy0,hy1,hb,hkp⟩; refine ⟨_,rfl,?_⟩; have n0_ := zA (Kd.Q_mono (ok' := fun k_ => some k_ ≠ (.slice Ao46 t256.length co46 : Value).ownBlock ∧ some k_ ≠ (.slice Ao56 t297.length co56 : Value).ownBlock ∧ some k_ ≠ (.slice Ao57 t298.length co57 : Value).ownBlock ∧ some k_ ≠ (.slice Ao66 t276.length co66 : Value).ownBlock ∧ some k_ ≠ (.slice Ao69 t280.length co69 : Value).ownBlock) (Kd.Q_keptB (HO_261002.out) hkp (fun k_ hk_ hs_ => Or.elim hs_ (fun e_ => (hk_.2.2.2.1) e_) (fun e_ => (hk_.2.2.2.2) e_))) (fun k_ hk_ => ⟨hk_.1.1,hk_.1.2.1,hk_.1.2.2.1,hk_.1.2.2.2.1,hk_.1.2.2.2.2⟩)); have n1_ := zA (zC (ok' := fun k_ => some k_ ≠ (.slice Ao43 t252.length co43 : Value).ownBlock ∧ some k_ ≠ (.slice Ao56 t297.length co56 : Value).ownBlock ∧ some k_ ≠ (.slice Ao57 t298.length co57 : Value).ownBlock ∧ some k_ ≠ (.slice Ao66 t276.length co66 : Value).ownBlock ∧ some k_ ≠ (.slice Ao69 t280.length co69 : Value).ownBlock) (Kd.R_keptB (HO_261004.out) hkp (fun k_ hk_ hs_ => Or.elim hs_ (fun e_ => (hk_.2.2.2.1) e_) (fun e_ => (hk_.2.2.2.2) e_))) (fun k_ hk_ => ⟨hk_.1.1,hk_.1.2.1,hk_.1.2.2.1,hk_.1.2.2.2.1,hk_.1.2.2.2.2⟩)); have n2_ := zA (Kd.Q_mono (ok' := fun k_ => some k_ ≠ (.slice Ao43 t252.length co43 : Value).ownBlock ∧ some k_ ≠ (.slice Ao46 t256.length co46 : Value).ownBlock ∧ some k_ ≠ (.slice Ao57 t298.length co57 : Value).ownBlock ∧ some k_ ≠ (.slice Ao66 t276.length co66 : Value).ownBlock ∧ some k_ ≠ (.slice Ao69 t280.length co69 : Value).ownBlock) (Kd.Q_keptB (HO_271002.out) hkp (fun k_ hk_ hs_ => Or.elim hs_ (fun e_ => (hk_.2.2.2.1) e_) (fun e_ => (hk_.2.2.2.2) e_))) (fun k_ hk_ => ⟨hk_.1.1,hk_.1.2.1,hk_.1.2.2.1,hk_.1.2.2.2.1,hk_.1.2.2.2.2⟩)); have n3_ := zA (zC (ok' := fun k_ => some k_ ≠ (.slice Ao43 t252.length co43 : Value).ownBlock ∧ some k_ ≠ (.slice Ao46 t256.length co46 : Value).ownBlock ∧ some k_ ≠ (.slice Ao56 t297.length co56 : Value).ownBlock ∧ some k_ ≠ (.slice Ao66 t276.length co66 : Value).ownBlock ∧ some k_ ≠ (.slice Ao69 t280.length co69 : Value).ownBlock) (Kd.R_keptB (HO_271004.out) hkp (fun k_ hk_ hs_ => Or.elim hs_ (fun e_ => (hk_.2.2.2.1) e_) (fun e_ => (hk_.2.2.2.2) e_))) (fun k_ hk_ => ⟨hk_.1.1,hk_.1.2.1,hk_.1.2.2.1,hk_.1.2.2.2.1,hk_.1.2.2.2.2⟩)); have n4_ := zA (Kd.Q_reok rfl hy0 (fun k_ e_ => HO_285002.out.1 k_ e_)); have n5_ := zA (Kd.R_reok rfl hy1 (fun k_ e_ => HO_285004.out.1 k_ e_)); have n6_ := zA (zY (rrB19c BK234.out) hkp (fun hs_ => Or.elim hs_ (fun e_ => (fun e_ => (Kd.Q_ne HO_285002.out BK234.out (by decide)) e_) e_) (fun e_ => (fun e_ => (Kd.R_ne HO_285004.out BK234.out (by decide)) e_) e_))); have n7_ := zA (zY (rrB19c BK235.out) hkp (fun hs_ => Or.elim hs_ (fun e_ => (fun e_ => (Kd.Q_ne HO_285002.out BK235.out (by decide)) e_) e_) (fun e_ => (fun e_ => (Kd.R_ne HO_285004.out BK235.out (by decide)) e_) e_))); have n8_ := zA (zY (rrB19c BK260.out) hkp (fun hs_ => Or.elim hs_ (fun e_ => (fun e_ => (Kd.Q_ne HO_285002.out BK260.out (by decide)) e_) e_) (fun e_ => (fun e_ => (Kd.R_ne HO_285004.out BK260.out (by decide)) e_) e_))); have n9_ := zA (zY (rrB19c BK270.out) hkp (fun hs_ => Or.elim hs_ (fun e_ => (fun e_ => (Kd.Q_ne HO_285002.out BK270.out (by decide)) e_) e_) (fun e_ => (fun e_ => (Kd.R_ne HO_285004.out BK270.out (by decide)) e_) e_))); have n10_ := zA (zY (rrB19c BK284.out) hkp (fun hs_ => Or.elim hs_ (fun e_ => (fun e_ => (Kd.Q_ne HO_285002.out BK284.out (by decide)) e_) e_) (fun e_ => (fun e_ => (Kd.R_ne HO_285004.out BK284.out (by decide)) e_) e_))); have n11_ := zA (hb); clear HO_261002 HO_261004 HO_271002 HO_271004 HO_285002 HO_285004 BK234 BK235 BK260 BK270 BK284 HB; have HO_261002 := n0_; have HO_261004 := n1_; have HO_271002 := n2_; have HO_271004 := n3_; have HO_285002 := n4_; have HO_285004 := n5_; have BK234 := n6_; have BK235 := n7_; have BK260 := n8_; have BK270 := n9_; have BK284 := n10_; have HB := n11_; clear n0_ n1_ n2_ n3_ n4_ n5_ n6_ n7_ n8_ n9_ n10_ n11_; (try clear hb); (try clear hkp); (try clear hy0); (try clear hy1); have hcz143_0 : w142.cell? ⟨gb284,0,none⟩ = some (.int .i64 t274) := (zW BK284.out 0).trans rfl; have hcz143_1 : w142.cell? ⟨gb284,1,none⟩ = some (.int .i64 t275) := (zW BK284.out 1).trans rfl; have hcz143_2 : w142.cell? ⟨gb284,2,none⟩ = some (.slice Ao66 t276.length co66) := (zW BK284.out 2).trans rfl; have hcz143_3 : w142.cell? ⟨gb284,3,none⟩ = some (.int .i64 t279) := (zW BK284.out 3).trans rfl; have hcz143_4 : w142.cell? ⟨gb284,4,none⟩ = some (.slice Ao69 t280.length co69) := (zW BK284.out 4).trans rfl; have hfz143_0 := zU BK284.out 0; have hfz143_1 := zU BK284.out 1; have hfz143_2 := zU BK284.out 2; have hfz143_3 := zU BK284.out 3; have hfz143_4 := zU BK284.out 4) | ((with_reducible refine gate_callee (f := 17) rfl ?_); refine goesL_ (some 78) rfl rfl Try.func17 (by kernel_rfl) rfl #[.agg #[.int .i64 t274,.int .i64 t275,.slice Ao66 t301.length co66,.int .i64 t279,.slice Ao69 t302.length co69],.int .i64 1] rfl (by (try simp only [List.map_toArray,List.map_cons,List.map_nil]); first | done | (rw [show t301.length = t276.length from (Kd.Q_reads' HO_285002.out).1.symm,show t302.length = t280.length from (zI HO_285004.out).1.symm] <;> rfl)|rfl|(simp only [List.length_drop,List.length_take]; rfl)) ?_; (with_reducible refine (laws_heldEnd.calls kj97 t274 t275 _ _ t301 t279 _ _ t302 1 t303 _ ?side1 ?side2 ?side3 ?side4 A135.out).mono ?_); (case side1 => repeat (first|exact (Kd.Q_reads' HO_285002.out).2.2|(with_reducible refine Kd.C_alloc ?_ _)|(with_reducible refine Kd.C_drewN ?_ _)|(with_reducible refine Kd.C_drew ?_))); (case side2 => rw [show t301.length = t276.length from (Kd.Q_reads' HO_285002.out).1.symm]; exact (Kd.Q_reads' HO_285002.out).2.1); (case side3 => repeat (first|exact (zI HO_285004.out).2.2|(with_reducible refine Kd.C_alloc ?_ _)|(with_reducible refine Kd.C_drewN ?_ _)|(with_reducible refine Kd.C_drew ?_))); (case side4 => rw [show t302.length = t280.length from (zI HO_285004.out).1.symm]; exact (zI HO_285004.out).2.1); rintro e w144 ⟨rfl,hb⟩; refine ⟨_,rfl,?_⟩; have n0_ := zA (Kd.Q_below (by (with_reducible repeat (first|apply Kd.Q_alloc|apply Kd.Q_drewN|apply Kd.Q_drew)); exact HO_261002.out) hb); have n1_ := zA (zD (rrA19c HO_261004.out) hb); have n2_ := zA (Kd.Q_below (by (with_reducible repeat (first|apply Kd.Q_alloc|apply Kd.Q_drewN|apply Kd.Q_drew)); exact HO_271002.out) hb); have n3_ := zA (zD (rrA19c HO_271004.out) hb); have n4_ := zA (Kd.Q_below (by (with_reducible repeat (first|apply Kd.Q_alloc|apply Kd.Q_drewN|apply Kd.Q_drew)); exact HO_285002.out) hb); have n5_ := zA (zD (rrA19c HO_285004.out) hb); have n6_ := zA (zV (g := gb234) (o := .cells #[.int .i64 a0_0,.int .i64 a0_1,.slice A0_2 l0_2.length c0_2,.int .i64 a0_3,.slice A0_4 l0_4.length c0_4] 24 (0,0)) (rrB19c BK234.out) hb); have n7_ := zA (zV (g := gb235) (o := .cells #[.int .i64 a1_0,.int .i64 a1_1,.string a1_2] 41 (0,0)) (rrB19c BK235.out) hb); have n8_ := zA (zV (g := gb260) (o := .cells #[.int .i64 t250,.int .i64 t251,.slice Ao43 t252.length co43,.int .i64 t255,.slice Ao46 t256.length co46] 26 (0,0)) (rrB19c BK260.out) hb); have n9_ := zA (zV (g := gb270) (o := .cells #[.int .i64 t261,.int .i64 t262,.slice Ao56 t297.length co56,.int .i64 t266,.slice Ao57 t298.length co57] 26 (0,0)) (rrB19c BK270.out) hb); have n10_ := zA (zV (g := gb284) (o := .cells #[.int .i64 t274,.int .i64 t275,.slice Ao66 t276.length co66,.int .i64 t279,.slice Ao69 t280.length co69] 26 (0,0)) (rrB19c BK284.out) hb); have n11_ := zA (zZ (by repeat (first|(with_reducible first|exact HB.out|apply zO|apply zQ|apply zP|refine zN ?_ GE234.out|refine zN ?_ GE235.out|refine zN ?_ GE260.out|refine zN ?_ GE270.out|refine zN ?_ GE284.out)|exact HB.out)) hb); clear HO_261002 HO_261004 HO_271002 HO_271004 HO_285002 HO_285004 BK234 BK235 BK260 BK270 BK284 HB; have HO_261002 := n0_; have HO_261004 := n1_; have HO_271002 := n2_; have HO_271004 := n3_; have HO_285002 := n4_; have HO_285004 := n5_; have BK234 := n6_; have BK235 := n7_; have BK260 := n8_; have BK270 := n9_; have BK284 := n10_; have HB := n11_; clear n0_ n1_ n2_ n3_ n4_ n5_ n6_ n7_ n8_ n9_ n10_ n11_; (try clear hb); (try clear hb2); (try clear hk); (try clear hi)))
            go_ret
            exact ⟨by first|rfl|(simp [errW_none,errW_some] <;> rfl)|(simp [*,errW_none,errW_some] <;> rfl),by repeat (first|(with_reducible first|exact HB.out|apply zO|apply zQ|apply zP|refine zN ?_ GE234.out|refine zN ?_ GE235.out|refine zN ?_ GE260.out|refine zN ?_ GE270.out|refine zN ?_ GE284.out)|exact HB.out)⟩
           ·
            rw [if_neg c136] at H
            have c136b0 : decide (t303 < 0) = false := decide_eq_false c136
            clear c136
            by_cases c145 : t303 = t300
            ·
             rw [if_pos c145] at H
             have c145b0 : (t303 == t300) = true := beq_iff_eq.mpr c145
             have c145b1 : (t303 != t300) = false := bne_eq_false_iff_eq.mpr c145
             clear c145
             replace H := Option.bind_eq_some_iff.mp H
             obtain ⟨⟨t304,t305,t306,t309,t310⟩,A1460,H⟩ := H
             replace H : ((laws_toParcel.f a1_0 a1_1 a1_2).bind fun bt313 => ((impl_Receive.f kj97 t304 t305 t306 t309 t310 bt313.1 bt313.2.1 bt313.2.2).bind fun bt316 => ((laws_eqEnd.f kj97 bt316.1 bt316.2.1 bt316.2.2.1 bt316.2.2.2.1 bt316.2.2.2.2.1 t250 t251 t252 t255 t256).bind fun t327 => (if t327 = true then (laws_FnExactReceive.j2 kj97 t300 (bt316.2.2.2.2.2 != t259) t274 t275 t301 t279 t302) else (laws_FnExactReceive.j2 kj97 t300 true t274 t275 t301 t279 t302))))) = some r := H
             have A146 := zA A1460
             clear A1460
             replace H := Option.bind_eq_some_iff.mp H
             obtain ⟨⟨t313,t314,t315⟩,A1470,H⟩ := H
             replace H : ((impl_Receive.f kj97 t304 t305 t306 t309 t310 t313 t314 t315).bind fun bt316 => ((laws_eqEnd.f kj97 bt316.1 bt316.2.1 bt316.2.2.1 bt316.2.2.2.1 bt316.2.2.2.2.1 t250 t251 t252 t255 t256).bind fun t327 => (if t327 = true then (laws_FnExactReceive.j2 kj97 t300 (bt316.2.2.2.2.2 != t259) t274 t275 t301 t279 t302) else (laws_FnExactReceive.j2 kj97 t300 true t274 t275 t301 t279 t302)))) = some r := H
             have A147 := zA A1470
             clear A1470
             replace H := Option.bind_eq_some_iff.mp H
             obtain ⟨⟨t316,t317,t318,t321,t322,t325⟩,A1480,H⟩ := H
             replace H : ((laws_eqEnd.f kj97 t316 t317 t318 t321 t322 t250 t251 t252 t255 t256).bind fun t327 => (if t327 = true then (laws_FnExactReceive.j2 kj97 t300 (t325 != t259) t274 t275 t301 t279 t302) else (laws_FnExactReceive.j2 kj97 t300 true t274 t275 t301 t279 t302))) = some r := H
             have A148 := zA A1480
             clear A1480
             have HC149 := zA H
             clear H
             have hnb150 := NB284_234.out
             have hnc150 := NB234_284.out
             have hnb151 := NB284_235.out
             have hnc151 := NB235_284.out
             have hnb152 := NB284_260.out
             have hnc152 := NB260_284.out
             have hnb153 := NB284_270.out
             have hnc153 := NB270_284.out
             have hcz154_0 : wc.cell? ⟨gb284,0,none⟩ = some (.int .i64 t274) := (zW BK284.out 0).trans rfl
             have hcz154_1 : wc.cell? ⟨gb284,1,none⟩ = some (.int .i64 t275) := (zW BK284.out 1).trans rfl
             have hcz154_2 : wc.cell? ⟨gb284,2,none⟩ = some (.slice Ao66 t276.length co66) := (zW BK284.out 2).trans rfl
             have hcz154_3 : wc.cell? ⟨gb284,3,none⟩ = some (.int .i64 t279) := (zW BK284.out 3).trans rfl
             have hcz154_4 : wc.cell? ⟨gb284,4,none⟩ = some (.slice Ao69 t280.length co69) := (zW BK284.out 4).trans rfl
             have hfz154_0 := zU BK284.out 0
             have hfz154_1 := zU BK284.out 1
             have hfz154_2 := zU BK284.out 2
             have hfz154_3 := zU BK284.out 3
             have hfz154_4 := zU BK284.out 4
             try go_wp2_with (first | ((with_reducible refine gate_callee (f := 16) rfl ?_); refine goesL_ (some 75) rfl rfl Try.func16 (by kernel_rfl) rfl #[.agg #[.int .i64 t274,.int .i64 t275,.slice Ao66 t276.length co66,.int .i64 t279,.slice Ao69 t280.length co69],.int .i64 1] rfl (by (try simp only [List.map_toArray,List.map_cons,List.map_nil]); first | done|rfl|(simp only [List.length_drop,List.length_take]; rfl)) ?_; (with_reducible refine (laws_markEnd.calls kj97 t274 t275 (fun k_ => some k_ = (.slice Ao66 t276.length co66 : Value).ownBlock) (.slice Ao66 t276.length co66) t276 t279 (fun k_ => some k_ = (.slice Ao69 t280.length co69 : Value).ownBlock) (.slice Ao69 t280.length co69) t280 1 t300 t301 t302 w _ ?side1 ?side2 ?side3 ?side4 ?side5 A134.out).mono ?_); (case side1 => repeat (first|(with_reducible first|exact HB.out|apply zO|apply zQ|apply zP|refine zN ?_ GE234.out|refine zN ?_ GE235.out|refine zN ?_ GE260.out|refine zN ?_ GE270.out|refine zN ?_ GE284.out)|exact HB.out)); (case side2 => exact Kd.Q_tight rfl HO_285002.out); (case side3 => exact fun k_ e_ => (HO_285002.out.1 k_ e_.symm).2.2.2.2); (case side4 => exact Kd.R_tight rfl HO_285004.out); (case side5 => exact fun k_ e_ => (HO_285004.out.1 k_ e_.symm).2.2.2.2); rintro e w155 ⟨rfl,hy0,hy1,hb,hkp⟩; refine ⟨_,rfl,?_⟩; have n0_ := zA (Kd.Q_mono (ok' := fun k_ => some k_ ≠ (.slice Ao46 t256.length co46 : Value).ownBlock ∧ some k_ ≠ (.slice Ao56 t297.length co56 : Value).ownBlock ∧ some k_ ≠ (.slice Ao57 t298.length co57 : Value).ownBlock ∧ some k_ ≠ (.slice Ao66 t276.length co66 : Value).ownBlock ∧ some k_ ≠ (.slice Ao69 t280.length co69 : Value).ownBlock) (Kd.Q_keptB (HO_261002.out) hkp (fun k_ hk_ hs_ => Or.elim hs_ (fun e_ => (hk_.2.2.2.1) e_) (fun e_ => (hk_.2.2.2.2) e_))) (fun k_ hk_ => ⟨hk_.1.1,hk_.1.2.1,hk_.1.2.2.1,hk_.1.2.2.2.1,hk_.1.2.2.2.2⟩)); have n1_ := zA (zC (ok' := fun k_ => some k_ ≠ (.slice Ao43 t252.length co43 : Value).ownBlock ∧ some k_ ≠ (.slice Ao56 t297.length co56 : Value).ownBlock ∧ some k_ ≠ (.slice Ao57 t298.length co57 : Value).ownBlock ∧ some k_ ≠ (.slice Ao66 t276.length co66 : Value).ownBlock ∧ some k_ ≠ (.slice Ao69 t280.length co69 : Value).ownBlock) (Kd.R_keptB (HO_261004.out) hkp (fun k_ hk_ hs_ => Or.elim hs_ (fun e_ => (hk_.2.2.2.1) e_) (fun e_ => (hk_.2.2.2.2) e_))) (fun k_ hk_ => ⟨hk_.1.1,hk_.1.2.1,hk_.1.2.2.1,hk_.1.2.2.2.1,hk_.1.2.2.2.2⟩)); have n2_ := zA (Kd.Q_mono (ok' := fun k_ => some k_ ≠ (.slice Ao43 t252.length co43 : Value).ownBlock ∧ some k_ ≠ (.slice Ao46 t256.length co46 : Value).ownBlock ∧ some k_ ≠ (.slice Ao57 t298.length co57 : Value).ownBlock ∧ some k_ ≠ (.slice Ao66 t276.length co66 : Value).ownBlock ∧ some k_ ≠ (.slice Ao69 t280.length co69 : Value).ownBlock) (Kd.Q_keptB (HO_271002.out) hkp (fun k_ hk_ hs_ => Or.elim hs_ (fun e_ => (hk_.2.2.2.1) e_) (fun e_ => (hk_.2.2.2.2) e_))) (fun k_ hk_ => ⟨hk_.1.1,hk_.1.2.1,hk_.1.2.2.1,hk_.1.2.2.2.1,hk_.1.2.2.2.2⟩)); have n3_ := zA (zC (ok' := fun k_ => some k_ ≠ (.slice Ao43 t252.length co43 : Value).ownBlock ∧ some k_ ≠ (.slice Ao46 t256.length co46 : Value).ownBlock ∧ some k_ ≠ (.slice Ao56 t297.length co56 : Value).ownBlock ∧ some k_ ≠ (.slice Ao66 t276.length co66 : Value).ownBlock ∧ some k_ ≠ (.slice Ao69 t280.length co69 : Value).ownBlock) (Kd.R_keptB (HO_271004.out) hkp (fun k_ hk_ hs_ => Or.elim hs_ (fun e_ => (hk_.2.2.2.1) e_) (fun e_ => (hk_.2.2.2.2) e_))) (fun k_ hk_ => ⟨hk_.1.1,hk_.1.2.1,hk_.1.2.2.1,hk_.1.2.2.2.1,hk_.1.2.2.2.2⟩)); have n4_ := zA (Kd.Q_reok rfl hy0 (fun k_ e_ => HO_285002.out.1 k_ e_)); have n5_ := zA (Kd.R_reok rfl hy1 (fun k_ e_ => HO_285004.out.1 k_ e_)); have n6_ := zA (zY (rrB19c BK234.out) hkp (fun hs_ => Or.elim hs_ (fun e_ => (fun e_ => (Kd.Q_ne HO_285002.out BK234.out (by decide)) e_) e_) (fun e_ => (fun e_ => (Kd.R_ne HO_285004.out BK234.out (by decide)) e_) e_))); have n7_ := zA (zY (rrB19c BK235.out) hkp (fun hs_ => Or.elim hs_ (fun e_ => (fun e_ => (Kd.Q_ne HO_285002.out BK235.out (by decide)) e_) e_) (fun e_ => (fun e_ => (Kd.R_ne HO_285004.out BK235.out (by decide)) e_) e_))); have n8_ := zA (zY (rrB19c BK260.out) hkp (fun hs_ => Or.elim hs_ (fun e_ => (fun e_ => (Kd.Q_ne HO_285002.out BK260.out (by decide)) e_) e_) (fun e_ => (fun e_ => (Kd.R_ne HO_285004.out BK260.out (by decide)) e_) e_))); have n9_ := zA (zY (rrB19c BK270.out) hkp (fun hs_ => Or.elim hs_ (fun e_ => (fun e_ => (Kd.Q_ne HO_285002.out BK270.out (by decide)) e_) e_) (fun e_ => (fun e_ => (Kd.R_ne HO_285004.out BK270.out (by decide)) e_) e_))); have n10_ := zA (zY (rrB19c BK284.out) hkp (fun hs_ => Or.elim hs_ (fun e_ => (fun e_ => (Kd.Q_ne HO_285002.out BK284.out (by decide)) e_) e_) (fun e_ => (fun e_ => (Kd.R_ne HO_285004.out BK284.out (by decide)) e_) e_))); have n11_ := zA (hb); clear HO_261002 HO_261004 HO_271002 HO_271004 HO_285002 HO_285004 BK234 BK235 BK260 BK270 BK284 HB; have HO_261002 := n0_; have HO_261004 := n1_; have HO_271002 := n2_; have HO_271004 := n3_; have HO_285002 := n4_; have HO_285004 := n5_; have BK234 := n6_; have BK235 := n7_; have BK260 := n8_; have BK270 := n9_; have BK284 := n10_; have HB := n11_; clear n0_ n1_ n2_ n3_ n4_ n5_ n6_ n7_ n8_ n9_ n10_ n11_; (try clear hb); (try clear hkp); (try clear hy0); (try clear hy1); have hcz156_0 : w155.cell? ⟨gb284,0,none⟩ = some (.int .i64 t274) := (zW BK284.out 0).trans rfl; have hcz156_1 : w155.cell? ⟨gb284,1,none⟩ = some (.int .i64 t275) := (zW BK284.out 1).trans rfl; have hcz156_2 : w155.cell? ⟨gb284,2,none⟩ = some (.slice Ao66 t276.length co66) := (zW BK284.out 2).trans rfl; have hcz156_3 : w155.cell? ⟨gb284,3,none⟩ = some (.int .i64 t279) := (zW BK284.out 3).trans rfl; have hcz156_4 : w155.cell? ⟨gb284,4,none⟩ = some (.slice Ao69 t280.length co69) := (zW BK284.out 4).trans rfl; have hfz156_0 := zU BK284.out 0; have hfz156_1 := zU BK284.out 1; have hfz156_2 := zU BK284.out 2; have hfz156_3 := zU BK284.out 3; have hfz156_4 := zU BK284.out 4) | ((with_reducible refine gate_callee (f := 17) rfl ?_); refine goesL_ (some 78) rfl rfl Try.func17 (by kernel_rfl) rfl #[.agg #[.int .i64 t274,.int .i64 t275,.slice Ao66 t301.length co66,.int .i64 t279,.slice Ao69 t302.length co69],.int .i64 1] rfl (by (try simp only [List.map_toArray,List.map_cons,List.map_nil]); first | done | (rw [show t301.length = t276.length from (Kd.Q_reads' HO_285002.out).1.symm,show t302.length = t280.length from (zI HO_285004.out).1.symm] <;> rfl)|rfl|(simp only [List.length_drop,List.length_take]; rfl)) ?_; (with_reducible refine (laws_heldEnd.calls kj97 t274 t275 _ _ t301 t279 _ _ t302 1 t303 _ ?side1 ?side2 ?side3 ?side4 A135.out).mono ?_); (case side1 => repeat (first|exact (Kd.Q_reads' HO_285002.out).2.2|(with_reducible refine Kd.C_alloc ?_ _)|(with_reducible refine Kd.C_drewN ?_ _)|(with_reducible refine Kd.C_drew ?_))); (case side2 => rw [show t301.length = t276.length from (Kd.Q_reads' HO_285002.out).1.symm]; exact (Kd.Q_reads' HO_285002.out).2.1); (case side3 => repeat (first|exact (zI HO_285004.out).2.2|(with_reducible refine Kd.C_alloc ?_ _)|(with_reducible refine Kd.C_drewN ?_ _)|(with_reducible refine Kd.C_drew ?_))); (case side4 => rw [show t302.length = t280.length from (zI HO_285004.out).1.symm]; exact (zI HO_285004.out).2.1); rintro e w157 ⟨rfl,hb⟩; refine ⟨_,rfl,?_⟩; have n0_ := zA (Kd.Q_below (by (with_reducible repeat (first|apply Kd.Q_alloc|apply Kd.Q_drewN|apply Kd.Q_drew)); exact HO_261002.out) hb); have n1_ := zA (zD (rrA19c HO_261004.out) hb); have n2_ := zA (Kd.Q_below (by (with_reducible repeat (first|apply Kd.Q_alloc|apply Kd.Q_drewN|apply Kd.Q_drew)); exact HO_271002.out) hb); have n3_ := zA (zD (rrA19c HO_271004.out) hb); have n4_ := zA (Kd.Q_below (by (with_reducible repeat (first|apply Kd.Q_alloc|apply Kd.Q_drewN|apply Kd.Q_drew)); exact HO_285002.out) hb); have n5_ := zA (zD (rrA19c HO_285004.out) hb); have n6_ := zA (zV (g := gb234) (o := .cells #[.int .i64 a0_0,.int .i64 a0_1,.slice A0_2 l0_2.length c0_2,.int .i64 a0_3,.slice A0_4 l0_4.length c0_4] 24 (0,0)) (rrB19c BK234.out) hb); have n7_ := zA (zV (g := gb235) (o := .cells #[.int .i64 a1_0,.int .i64 a1_1,.string a1_2] 41 (0,0)) (rrB19c BK235.out) hb); have n8_ := zA (zV (g := gb260) (o := .cells #[.int .i64 t250,.int .i64 t251,.slice Ao43 t252.length co43,.int .i64 t255,.slice Ao46 t256.length co46] 26 (0,0)) (rrB19c BK260.out) hb); have n9_ := zA (zV (g := gb270) (o := .cells #[.int .i64 t261,.int .i64 t262,.slice Ao56 t297.length co56,.int .i64 t266,.slice Ao57 t298.length co57] 26 (0,0)) (rrB19c BK270.out) hb); have n10_ := zA (zV (g := gb284) (o := .cells #[.int .i64 t274,.int .i64 t275,.slice Ao66 t276.length co66,.int .i64 t279,.slice Ao69 t280.length co69] 26 (0,0)) (rrB19c BK284.out) hb); have n11_ := zA (zZ (by repeat (first|(with_reducible first|exact HB.out|apply zO|apply zQ|apply zP|refine zN ?_ GE234.out|refine zN ?_ GE235.out|refine zN ?_ GE260.out|refine zN ?_ GE270.out|refine zN ?_ GE284.out)|exact HB.out)) hb); clear HO_261002 HO_261004 HO_271002 HO_271004 HO_285002 HO_285004 BK234 BK235 BK260 BK270 BK284 HB; have HO_261002 := n0_; have HO_261004 := n1_; have HO_271002 := n2_; have HO_271004 := n3_; have HO_285002 := n4_; have HO_285004 := n5_; have BK234 := n6_; have BK235 := n7_; have BK260 := n8_; have BK270 := n9_; have BK284 := n10_; have HB := n11_; clear n0_ n1_ n2_ n3_ n4_ n5_ n6_ n7_ n8_ n9_ n10_ n11_; (try clear hb); (try clear hb2); (try clear hk); (try clear hi)))
             have n0_ := zA (Kd.Q_drew HO_261002.out)
             have n1_ := zA (zL HO_261004.out)
             have n2_ := zA (Kd.Q_drew HO_271002.out)
             have n3_ := zA (zL HO_271004.out)
             have n4_ := zA (Kd.Q_drew HO_285002.out)
             have n5_ := zA (zL HO_285004.out)
             have n6_ := zA (zT BK234.out)
             have n7_ := zA (zT BK235.out)
             have n8_ := zA (zT BK260.out)
             have n9_ := zA (zT BK270.out)
             have n10_ := zA (zT BK284.out)
             have n11_ := zA (zP HB.out)
             clear HO_261002 HO_261004 HO_271002 HO_271004 HO_285002 HO_285004 BK234 BK235 BK260 BK270 BK284 HB
             have HO_261002 := n0_
             have HO_261004 := n1_
             have HO_271002 := n2_
             have HO_271004 := n3_
             have HO_285002 := n4_
             have HO_285004 := n5_
             have BK234 := n6_
             have BK235 := n7_
             have BK260 := n8_
             have BK270 := n9_
             have BK284 := n10_
             have HB := n11_
             clear n0_ n1_ n2_ n3_ n4_ n5_ n6_ n7_ n8_ n9_ n10_ n11_
             refine start_ (n := 11) (S := fun w' => w'.cell? ⟨gb234,0,none⟩ = some (.int .i64 a0_0) ∧ w'.cell? ⟨gb234,1,none⟩ = some (.int .i64 a0_1) ∧ w'.cell? ⟨gb234,2,none⟩ = some (.slice A0_2 l0_2.length c0_2) ∧ w'.cell? ⟨gb234,3,none⟩ = some (.int .i64 a0_3) ∧ w'.cell? ⟨gb234,4,none⟩ = some (.slice A0_4 l0_4.length c0_4) ∧ w'.cell? ⟨gb235,0,none⟩ = some (.int .i64 a1_0) ∧ w'.cell? ⟨gb235,1,none⟩ = some (.int .i64 a1_1) ∧ w'.cell? ⟨gb235,2,none⟩ = some (.string a1_2)) (ds := []) #[false,false,false,false,false,false,false,false,false,false,false] (by kernel_rfl) rfl rfl ⟨(zW BK234.out 0).trans rfl,(zW BK234.out 1).trans rfl,(zW BK234.out 2).trans rfl,(zW BK234.out 3).trans rfl,(zW BK234.out 4).trans rfl,(zW BK235.out 0).trans rfl,(zW BK235.out 1).trans rfl,(zW BK235.out 2).trans rfl⟩ (fun hHeld => ?_); refine with_tabW laws_FnExactReceive.tab27 laws_FnExactReceive.bits27 (fun HT_ HW_ => ?_)
             generalize w157.drew = w158 at HO_261002 HO_261004 HO_271002 HO_271004 HO_285002 HO_285004 BK234 BK235 BK260 BK270 BK284 HB hHeld ⊢
             refine take_ (i := 0) (N := some 85) (v := ?_) (a' := ?_) #[true,false,false,false,false,false,false,false,false,false,false] rfl rfl (take_ofW HT_.out HW_.out (by kernel_rfl)) (fun _ _ _ h => h) (Or.inl ⟨by rfl,?_⟩) hHeld ?_ ?_; rotate_left
             ·
              rintro w' ⟨s0,s1,s2,s3,s4,s5,s6,s7⟩
              go_simp; with_reducible rfl
             rotate_left
             · simp only [Act.put,List.setIfInBounds_toArray,List.set_cons_zero,List.set_cons_succ,i64_w,i32_w]; rfl
             refine take_ (i := 2) (N := some 87) (v := ?_) (a' := ?_) #[true,false,true,false,false,false,false,false,false,false,false] rfl rfl (take_ofW HT_.out HW_.out (by kernel_rfl)) (fun _ _ _ h => h) (Or.inl ⟨by rfl,?_⟩) hHeld ?_ ?_; rotate_left
             ·
              rintro w' ⟨s0,s1,s2,s3,s4,s5,s6,s7⟩
              go_simp; with_reducible rfl
             rotate_left
             · simp only [Act.put,List.setIfInBounds_toArray,List.set_cons_zero,List.set_cons_succ,i64_w,i32_w]; rfl
             refine join_ (σ := Value × Value × Value × Value × Nat) 2 #[true,true,true,true,true,true,true,true,true,false,false] (fun s_ => [(86,.agg #[.int .i64 t304,.int .i64 t305,s_.1,.int .i64 t309,s_.2.1]),(88,.agg #[.int .i64 t313,.int .i64 t314,.string t315]),(89,.tuple #[.agg #[.int .i64 t316,.int .i64 t317,s_.2.2.1,.int .i64 t321,s_.2.2.2.1],.bool t325]),(14,.pointer (some ⟨s_.2.2.2.2,0,none⟩)),(84,.tuple #[.agg #[.int .i64 t316,.int .i64 t317,s_.2.2.1,.int .i64 t321,s_.2.2.2.1],.bool t325]),(90,.agg #[.int .i64 t316,.int .i64 t317,s_.2.2.1,.int .i64 t321,s_.2.2.2.1]),(91,.bool t325)]) (fun s_ w' => (w'.cell? ⟨gb234,0,none⟩ = some (.int .i64 a0_0) ∧ w'.cell? ⟨gb234,1,none⟩ = some (.int .i64 a0_1) ∧ w'.cell? ⟨gb234,2,none⟩ = some (.slice A0_2 l0_2.length c0_2) ∧ w'.cell? ⟨gb234,3,none⟩ = some (.int .i64 a0_3) ∧ w'.cell? ⟨gb234,4,none⟩ = some (.slice A0_4 l0_4.length c0_4) ∧ w'.cell? ⟨gb235,0,none⟩ = some (.int .i64 a1_0) ∧ w'.cell? ⟨gb235,1,none⟩ = some (.int .i64 a1_1) ∧ w'.cell? ⟨gb235,2,none⟩ = some (.string a1_2)) ∧ (Kd.R Kd.string 9 w' w.heap.size (fun k_ => some k_ ≠ (s_.2.1 : Value).ownBlock ∧ some k_ ≠ (s_.2.2.1 : Value).ownBlock ∧ some k_ ≠ (s_.2.2.2.1 : Value).ownBlock ∧ some k_ ≠ (.slice Ao43 t252.length co43 : Value).ownBlock ∧ some k_ ≠ (.slice Ao46 t256.length co46 : Value).ownBlock ∧ some k_ ≠ (.slice Ao56 t297.length co56 : Value).ownBlock ∧ some k_ ≠ (.slice Ao57 t298.length co57 : Value).ownBlock ∧ some k_ ≠ (.slice Ao66 t276.length co66 : Value).ownBlock ∧ some k_ ≠ (.slice Ao69 t280.length co69 : Value).ownBlock) s_.1 t306) ∧ (Kd.R Kd.string 9 w' w.heap.size (fun k_ => some k_ ≠ (s_.1 : Value).ownBlock ∧ some k_ ≠ (s_.2.2.1 : Value).ownBlock ∧ some k_ ≠ (s_.2.2.2.1 : Value).ownBlock ∧ some k_ ≠ (.slice Ao43 t252.length co43 : Value).ownBlock ∧ some k_ ≠ (.slice Ao46 t256.length co46 : Value).ownBlock ∧ some k_ ≠ (.slice Ao56 t297.length co56 : Value).ownBlock ∧ some k_ ≠ (.slice Ao57 t298.length co57 : Value).ownBlock ∧ some k_ ≠ (.slice Ao66 t276.length co66 : Value).ownBlock ∧ some k_ ≠ (.slice Ao69 t280.length co69 : Value).ownBlock) s_.2.1 t310) ∧ (Kd.Q Kd.string 9 w' w.heap.size (fun k_ => some k_ ≠ (s_.1 : Value).ownBlock ∧ some k_ ≠ (s_.2.1 : Value).ownBlock ∧ some k_ ≠ (s_.2.2.2.1 : Value).ownBlock ∧ some k_ ≠ (.slice Ao43 t252.length co43 : Value).ownBlock ∧ some k_ ≠ (.slice Ao46 t256.length co46 : Value).ownBlock ∧ some k_ ≠ (.slice Ao56 t297.length co56 : Value).ownBlock ∧ some k_ ≠ (.slice Ao57 t298.length co57 : Value).ownBlock ∧ some k_ ≠ (.slice Ao66 t276.length co66 : Value).ownBlock ∧ some k_ ≠ (.slice Ao69 t280.length co69 : Value).ownBlock) s_.2.2.1 t318) ∧ (Kd.R Kd.string 9 w' w.heap.size (fun k_ => some k_ ≠ (s_.1 : Value).ownBlock ∧ some k_ ≠ (s_.2.1 : Value).ownBlock ∧ some k_ ≠ (s_.2.2.1 : Value).ownBlock ∧ some k_ ≠ (.slice Ao43 t252.length co43 : Value).ownBlock ∧ some k_ ≠ (.slice Ao46 t256.length co46 : Value).ownBlock ∧ some k_ ≠ (.slice Ao56 t297.length co56 : Value).ownBlock ∧ some k_ ≠ (.slice Ao57 t298.length co57 : Value).ownBlock ∧ some k_ ≠ (.slice Ao66 t276.length co66 : Value).ownBlock ∧ some k_ ≠ (.slice Ao69 t280.length co69 : Value).ownBlock) s_.2.2.2.1 t322) ∧ (Kd.Q Kd.string 9 w' w.heap.size (fun k_ => some k_ ≠ (s_.1 : Value).ownBlock ∧ some k_ ≠ (s_.2.1 : Value).ownBlock ∧ some k_ ≠ (s_.2.2.1 : Value).ownBlock ∧ some k_ ≠ (s_.2.2.2.1 : Value).ownBlock ∧ some k_ ≠ (.slice Ao46 t256.length co46 : Value).ownBlock ∧ some k_ ≠ (.slice Ao56 t297.length co56 : Value).ownBlock ∧ some k_ ≠ (.slice Ao57 t298.length co57 : Value).ownBlock ∧ some k_ ≠ (.slice Ao66 t276.length co66 : Value).ownBlock ∧ some k_ ≠ (.slice Ao69 t280.length co69 : Value).ownBlock) (.slice Ao43 t252.length co43) t252) ∧ (Kd.R Kd.string 9 w' w.heap.size (fun k_ => some k_ ≠ (s_.1 : Value).ownBlock ∧ some k_ ≠ (s_.2.1 : Value).ownBlock ∧ some k_ ≠ (s_.2.2.1 : Value).ownBlock ∧ some k_ ≠ (s_.2.2.2.1 : Value).ownBlock ∧ some k_ ≠ (.slice Ao43 t252.length co43 : Value).ownBlock ∧ some k_ ≠ (.slice Ao56 t297.length co56 : Value).ownBlock ∧ some k_ ≠ (.slice Ao57 t298.length co57 : Value).ownBlock ∧ some k_ ≠ (.slice Ao66 t276.length co66 : Value).ownBlock ∧ some k_ ≠ (.slice Ao69 t280.length co69 : Value).ownBlock) (.slice Ao46 t256.length co46) t256) ∧ (Kd.Q Kd.string 9 w' w.heap.size (fun k_ => some k_ ≠ (s_.1 : Value).ownBlock ∧ some k_ ≠ (s_.2.1 : Value).ownBlock ∧ some k_ ≠ (s_.2.2.1 : Value).ownBlock ∧ some k_ ≠ (s_.2.2.2.1 : Value).ownBlock ∧ some k_ ≠ (.slice Ao43 t252.length co43 : Value).ownBlock ∧ some k_ ≠ (.slice Ao46 t256.length co46 : Value).ownBlock ∧ some k_ ≠ (.slice Ao57 t298.length co57 : Value).ownBlock ∧ some k_ ≠ (.slice Ao66 t276.length co66 : Value).ownBlock ∧ some k_ ≠ (.slice Ao69 t280.length co69 : Value).ownBlock) (.slice Ao56 t297.length co56) t297) ∧ (Kd.R Kd.string 9 w' w.heap.size (fun k_ => some k_ ≠ (s_.1 : Value).ownBlock ∧ some k_ ≠ (s_.2.1 : Value).ownBlock ∧ some k_ ≠ (s_.2.2.1 : Value).ownBlock ∧ some k_ ≠ (s_.2.2.2.1 : Value).ownBlock ∧ some k_ ≠ (.slice Ao43 t252.length co43 : Value).ownBlock ∧ some k_ ≠ (.slice Ao46 t256.length co46 : Value).ownBlock ∧ some k_ ≠ (.slice Ao56 t297.length co56 : Value).ownBlock ∧ some k_ ≠ (.slice Ao66 t276.length co66 : Value).ownBlock ∧ some k_ ≠ (.slice Ao69 t280.length co69 : Value).ownBlock) (.slice Ao57 t298.length co57) t298) ∧ (Kd.Q Kd.string 9 w' w.heap.size (fun k_ => some k_ ≠ (s_.1 : Value).ownBlock ∧ some k_ ≠ (s_.2.1 : Value).ownBlock ∧ some k_ ≠ (s_.2.2.1 : Value).ownBlock ∧ some k_ ≠ (s_.2.2.2.1 : Value).ownBlock ∧ some k_ ≠ (.slice Ao43 t252.length co43 : Value).ownBlock ∧ some k_ ≠ (.slice Ao46 t256.length co46 : Value).ownBlock ∧ some k_ ≠ (.slice Ao56 t297.length co56 : Value).ownBlock ∧ some k_ ≠ (.slice Ao57 t298.length co57 : Value).ownBlock ∧ some k_ ≠ (.slice Ao69 t280.length co69 : Value).ownBlock) (.slice Ao66 t276.length co66) t301) ∧ (Kd.R Kd.string 9 w' w.heap.size (fun k_ => some k_ ≠ (s_.1 : Value).ownBlock ∧ some k_ ≠ (s_.2.1 : Value).ownBlock ∧ some k_ ≠ (s_.2.2.1 : Value).ownBlock ∧ some k_ ≠ (s_.2.2.2.1 : Value).ownBlock ∧ some k_ ≠ (.slice Ao43 t252.length co43 : Value).ownBlock ∧ some k_ ≠ (.slice Ao46 t256.length co46 : Value).ownBlock ∧ some k_ ≠ (.slice Ao56 t297.length co56 : Value).ownBlock ∧ some k_ ≠ (.slice Ao57 t298.length co57 : Value).ownBlock ∧ some k_ ≠ (.slice Ao66 t276.length co66 : Value).ownBlock) (.slice Ao69 t280.length co69) t302) ∧ (w'.heap[gb234]? = some (.cells #[.int .i64 a0_0,.int .i64 a0_1,.slice A0_2 l0_2.length c0_2,.int .i64 a0_3,.slice A0_4 l0_4.length c0_4] 24 (0,0))) ∧ (w'.heap[gb235]? = some (.cells #[.int .i64 a1_0,.int .i64 a1_1,.string a1_2] 41 (0,0))) ∧ (w'.heap[gb260]? = some (.cells #[.int .i64 t250,.int .i64 t251,.slice Ao43 t252.length co43,.int .i64 t255,.slice Ao46 t256.length co46] 26 (0,0))) ∧ (w'.heap[gb270]? = some (.cells #[.int .i64 t261,.int .i64 t262,.slice Ao56 t297.length co56,.int .i64 t266,.slice Ao57 t298.length co57] 26 (0,0))) ∧ (w'.heap[gb284]? = some (.cells #[.int .i64 t274,.int .i64 t275,.slice Ao66 t276.length co66,.int .i64 t279,.slice Ao69 t280.length co69] 26 (0,0))) ∧ (w'.heap[s_.2.2.2.2]? = some (.cells #[.int .i64 0,.int .i64 0,.slice none 0 0,.int .i64 0,.slice none 0 0] 26 (0,0))) ∧ (w.heap.size ≤ s_.2.2.2.2) ∧ (w.heap.size ≤ s_.2.2.2.2) ∧ (gb234 ≠ s_.2.2.2.2) ∧ (s_.2.2.2.2 ≠ gb234) ∧ (gb235 ≠ s_.2.2.2.2) ∧ (s_.2.2.2.2 ≠ gb235) ∧ (gb260 ≠ s_.2.2.2.2) ∧ (s_.2.2.2.2 ≠ gb260) ∧ (gb270 ≠ s_.2.2.2.2) ∧ (s_.2.2.2.2 ≠ gb270) ∧ (gb284 ≠ s_.2.2.2.2) ∧ (s_.2.2.2.2 ≠ gb284) ∧ (Below w.heap.size w w')) ?_ ?_
             rotate_left
             ·
              intro hCont
              refine two_ (i := 1) (j := 8) (Ni := some 86) (Nj := some 14) #[true,true,true,false,false,false,false,false,false,false,false] #[true,false,true,false,false,false,false,false,true,false,false] rfl rfl rfl rfl (two_of HT_.out (by kernel_rfl)) (by decide) (by decide) (fun K hK => ?_) (fun K hK => ?_)
              ·
               skip
               refine goes_ Try.func13 (by kernel_rfl) rfl #[.agg #[.int .i64 a0_0,.int .i64 a0_1,.slice A0_2 l0_2.length c0_2,.int .i64 a0_3,.slice A0_4 l0_4.length c0_4]] (by rfl) rfl rfl (by (try simp only [List.map_toArray,List.map_cons,List.map_nil]); first | done|rfl|(simp only [List.length_drop,List.length_take]; rfl)) ?_
               with_reducible refine (laws_toEnd.calls kj97 a0_0 a0_1 _ _ l0_2 a0_3 _ _ l0_4 t304 t305 t306 t309 t310 _ ?side1 ?side2 ?side3 ?side4 A146.out).mono ?_
               (case side1 => repeat (first|exact (Kd.C_below HR0_2.out HB.out)|(with_reducible refine Kd.C_alloc ?_ _)|(with_reducible refine Kd.C_drewN ?_ _)|(with_reducible refine Kd.C_drew ?_)))
               (case side2 => exact HC0_2.out)
               (case side3 => repeat (first|exact (Kd.C_below HR0_4.out HB.out)|(with_reducible refine Kd.C_alloc ?_ _)|(with_reducible refine Kd.C_drewN ?_ _)|(with_reducible refine Kd.C_drew ?_)))
               (case side4 => exact HC0_4.out)
               rintro e w159 ⟨v307,v311,rfl,ho0,ho1,hb⟩
               refine ⟨_,rfl,?_⟩
               have n0_ := zA (Kd.Q_mono (Kd.Q_told (Kd.Q_told (Kd.Q_old (by (with_reducible repeat (first|apply Kd.Q_alloc|apply Kd.Q_drewN|apply Kd.Q_drew)); exact HO_261002.out) hb) (zF ho0)) (zF ho1)) (fun _ h_ => h_.1))
               have n1_ := zA (zC (zE (zE (zM (rrA19c HO_261004.out) hb) (zF ho0)) (zF ho1)) (fun _ h_ => h_.1))
               have n2_ := zA (Kd.Q_mono (Kd.Q_told (Kd.Q_told (Kd.Q_old (by (with_reducible repeat (first|apply Kd.Q_alloc|apply Kd.Q_drewN|apply Kd.Q_drew)); exact HO_271002.out) hb) (zF ho0)) (zF ho1)) (fun _ h_ => h_.1))
               have n3_ := zA (zC (zE (zE (zM (rrA19c HO_271004.out) hb) (zF ho0)) (zF ho1)) (fun _ h_ => h_.1))
               have n4_ := zA (Kd.Q_mono (Kd.Q_told (Kd.Q_told (Kd.Q_old (by (with_reducible repeat (first|apply Kd.Q_alloc|apply Kd.Q_drewN|apply Kd.Q_drew)); exact HO_285002.out) hb) (zF ho0)) (zF ho1)) (fun _ h_ => h_.1))
               have n5_ := zA (zC (zE (zE (zM (rrA19c HO_285004.out) hb) (zF ho0)) (zF ho1)) (fun _ h_ => h_.1))
               have n6_ := zA (Kd.R_lower (zG (zG (zG (zG (zG (zG ho0 (Kd.Q_lt (by (with_reducible repeat (first|apply Kd.Q_alloc|apply Kd.Q_drewN|apply Kd.Q_drew)); exact HO_261002.out))) (Kd.R_lt (rrA19c HO_261004.out))) (Kd.Q_lt (by (with_reducible repeat (first|apply Kd.Q_alloc|apply Kd.Q_drewN|apply Kd.Q_drew)); exact HO_271002.out))) (Kd.R_lt (rrA19c HO_271004.out))) (Kd.Q_lt (by (with_reducible repeat (first|apply Kd.Q_alloc|apply Kd.Q_drewN|apply Kd.Q_drew)); exact HO_285002.out))) (Kd.R_lt (rrA19c HO_285004.out))) (below_size (by repeat (first|(with_reducible first|exact HB.out|apply zO|apply zQ|apply zP|refine zN ?_ GE234.out|refine zN ?_ GE235.out|refine zN ?_ GE260.out|refine zN ?_ GE270.out|refine zN ?_ GE284.out)|exact HB.out))))
               have n7_ := zA (Kd.R_lower (zG (zG (zG (zG (zG (zG ho1 (Kd.Q_lt (by (with_reducible repeat (first|apply Kd.Q_alloc|apply Kd.Q_drewN|apply Kd.Q_drew)); exact HO_261002.out))) (Kd.R_lt (rrA19c HO_261004.out))) (Kd.Q_lt (by (with_reducible repeat (first|apply Kd.Q_alloc|apply Kd.Q_drewN|apply Kd.Q_drew)); exact HO_271002.out))) (Kd.R_lt (rrA19c HO_271004.out))) (Kd.Q_lt (by (with_reducible repeat (first|apply Kd.Q_alloc|apply Kd.Q_drewN|apply Kd.Q_drew)); exact HO_285002.out))) (Kd.R_lt (rrA19c HO_285004.out))) (below_size (by repeat (first|(with_reducible first|exact HB.out|apply zO|apply zQ|apply zP|refine zN ?_ GE234.out|refine zN ?_ GE235.out|refine zN ?_ GE260.out|refine zN ?_ GE270.out|refine zN ?_ GE284.out)|exact HB.out))))
               have n8_ := zA (zV (g := gb234) (o := .cells #[.int .i64 a0_0,.int .i64 a0_1,.slice A0_2 l0_2.length c0_2,.int .i64 a0_3,.slice A0_4 l0_4.length c0_4] 24 (0,0)) (rrB19c BK234.out) hb)
               have n9_ := zA (zV (g := gb235) (o := .cells #[.int .i64 a1_0,.int .i64 a1_1,.string a1_2] 41 (0,0)) (rrB19c BK235.out) hb)
               have n10_ := zA (zV (g := gb260) (o := .cells #[.int .i64 t250,.int .i64 t251,.slice Ao43 t252.length co43,.int .i64 t255,.slice Ao46 t256.length co46] 26 (0,0)) (rrB19c BK260.out) hb)
               have n11_ := zA (zV (g := gb270) (o := .cells #[.int .i64 t261,.int .i64 t262,.slice Ao56 t297.length co56,.int .i64 t266,.slice Ao57 t298.length co57] 26 (0,0)) (rrB19c BK270.out) hb)
               have n12_ := zA (zV (g := gb284) (o := .cells #[.int .i64 t274,.int .i64 t275,.slice Ao66 t276.length co66,.int .i64 t279,.slice Ao69 t280.length co69] 26 (0,0)) (rrB19c BK284.out) hb)
               have n13_ := zA (zZ (by repeat (first|(with_reducible first|exact HB.out|apply zO|apply zQ|apply zP|refine zN ?_ GE234.out|refine zN ?_ GE235.out|refine zN ?_ GE260.out|refine zN ?_ GE270.out|refine zN ?_ GE284.out)|exact HB.out)) hb)
               clear HO_261002 HO_261004 HO_271002 HO_271004 HO_285002 HO_285004 BK234 BK235 BK260 BK270 BK284 HB
               have HO_261002 := n0_
               have HO_261004 := n1_
               have HO_271002 := n2_
               have HO_271004 := n3_
               have HO_285002 := n4_
               have HO_285004 := n5_
               have HO308 := n6_
               have HO312 := n7_
               have BK234 := n8_
               have BK235 := n9_
               have BK260 := n10_
               have BK270 := n11_
               have BK284 := n12_
               have HB := n13_
               clear n0_ n1_ n2_ n3_ n4_ n5_ n6_ n7_ n8_ n9_ n10_ n11_ n12_ n13_
               (try clear hb)
               (try clear hb2)
               (try clear hk)
               (try clear hi)
               (try clear ho0)
               (try clear ho1)
               refine hK.out _ _ ⟨(zW BK234.out 0).trans rfl,(zW BK234.out 1).trans rfl,(zW BK234.out 2).trans rfl,(zW BK234.out 3).trans rfl,(zW BK234.out 4).trans rfl,(zW BK235.out 0).trans rfl,(zW BK235.out 1).trans rfl,(zW BK235.out 2).trans rfl⟩ (fun hHeld => ?_)
               clear hK K
               refine norm_ (a' := ?_) ?_ ?_
               rotate_left
               ·
                show Act.put _ (some 86) _ = _
                simp only [Act.put,List.setIfInBounds_toArray,List.set_cons_zero,List.set_cons_succ,i64_w,i32_w]; rfl
               refine two_ (i := 3) (j := 8) (Ni := some 88) (Nj := some 14) #[true,true,true,true,false,false,false,false,false,false,false] #[true,true,true,false,false,false,false,false,true,false,false] rfl rfl rfl rfl (two_of HT_.out (by kernel_rfl)) (by decide) (by decide) (fun K hK => ?_) (fun K hK => ?_)
               ·
                skip
                refine goes_ Try.func25 (by kernel_rfl) rfl #[.agg #[.int .i64 a1_0,.int .i64 a1_1,.string a1_2]] (by rfl) rfl rfl (by (try simp only [List.map_toArray,List.map_cons,List.map_nil]); first | done|rfl|(simp only [List.length_drop,List.length_take]; rfl)) ?_
                with_reducible refine (laws_toParcel.calls a1_0 a1_1 a1_2 t313 t314 t315 _ A147.out).mono ?_
                rintro e w160 ⟨rfl,hb⟩
                refine ⟨_,rfl,?_⟩
                have n0_ := zA (Kd.Q_below (by (with_reducible repeat (first|apply Kd.Q_alloc|apply Kd.Q_drewN|apply Kd.Q_drew)); exact HO_261002.out) hb)
                have n1_ := zA (zD (rrA19c HO_261004.out) hb)
                have n2_ := zA (Kd.Q_below (by (with_reducible repeat (first|apply Kd.Q_alloc|apply Kd.Q_drewN|apply Kd.Q_drew)); exact HO_271002.out) hb)
                have n3_ := zA (zD (rrA19c HO_271004.out) hb)
                have n4_ := zA (Kd.Q_below (by (with_reducible repeat (first|apply Kd.Q_alloc|apply Kd.Q_drewN|apply Kd.Q_drew)); exact HO_285002.out) hb)
                have n5_ := zA (zD (rrA19c HO_285004.out) hb)
                have n6_ := zA (zD (rrA19c HO308.out) hb)
                have n7_ := zA (zD (rrA19c HO312.out) hb)
                have n8_ := zA (zV (g := gb234) (o := .cells #[.int .i64 a0_0,.int .i64 a0_1,.slice A0_2 l0_2.length c0_2,.int .i64 a0_3,.slice A0_4 l0_4.length c0_4] 24 (0,0)) (rrB19c BK234.out) hb)
                have n9_ := zA (zV (g := gb235) (o := .cells #[.int .i64 a1_0,.int .i64 a1_1,.string a1_2] 41 (0,0)) (rrB19c BK235.out) hb)
                have n10_ := zA (zV (g := gb260) (o := .cells #[.int .i64 t250,.int .i64 t251,.slice Ao43 t252.length co43,.int .i64 t255,.slice Ao46 t256.length co46] 26 (0,0)) (rrB19c BK260.out) hb)
                have n11_ := zA (zV (g := gb270) (o := .cells #[.int .i64 t261,.int .i64 t262,.slice Ao56 t297.length co56,.int .i64 t266,.slice Ao57 t298.length co57] 26 (0,0)) (rrB19c BK270.out) hb)
                have n12_ := zA (zV (g := gb284) (o := .cells #[.int .i64 t274,.int .i64 t275,.slice Ao66 t276.length co66,.int .i64 t279,.slice Ao69 t280.length co69] 26 (0,0)) (rrB19c BK284.out) hb)
                have n13_ := zA (zZ (by repeat (first|(with_reducible first|exact HB.out|apply zO|apply zQ|apply zP|refine zN ?_ GE234.out|refine zN ?_ GE235.out|refine zN ?_ GE260.out|refine zN ?_ GE270.out|refine zN ?_ GE284.out)|exact HB.out)) hb)
                clear HO_261002 HO_261004 HO_271002 HO_271004 HO_285002 HO_285004 HO308 HO312 BK234 BK235 BK260 BK270 BK284 HB
                have HO_261002 := n0_
                have HO_261004 := n1_
                have HO_271002 := n2_
                have HO_271004 := n3_
                have HO_285002 := n4_
                have HO_285004 := n5_
                have HO308 := n6_
                have HO312 := n7_
                have BK234 := n8_
                have BK235 := n9_
                have BK260 := n10_
                have BK270 := n11_
                have BK284 := n12_
                have HB := n13_
                clear n0_ n1_ n2_ n3_ n4_ n5_ n6_ n7_ n8_ n9_ n10_ n11_ n12_ n13_
                (try clear hb)
                (try clear hb2)
                (try clear hk)
                (try clear hi)
                obtain ⟨Ao161,co161,eo161⟩ := Kd.R_slice HO308.out
                (first | subst eo161 | (injection eo161 with f1_ f2_ f3_; have f4_ := f1_.symm; have f5_ := f3_.symm; clear f1_ f2_ f3_; subst f4_; subst f5_))
                obtain ⟨Ao162,co162,eo162⟩ := Kd.R_slice HO312.out
                (first | subst eo162 | (injection eo162 with f1_ f2_ f3_; have f4_ := f1_.symm; have f5_ := f3_.symm; clear f1_ f2_ f3_; subst f4_; subst f5_))
                refine hK.out _ _ ⟨(zW BK234.out 0).trans rfl,(zW BK234.out 1).trans rfl,(zW BK234.out 2).trans rfl,(zW BK234.out 3).trans rfl,(zW BK234.out 4).trans rfl,(zW BK235.out 0).trans rfl,(zW BK235.out 1).trans rfl,(zW BK235.out 2).trans rfl⟩ (fun hHeld => ?_)
                clear hK K
                refine norm_ (a' := ?_) ?_ ?_
                rotate_left
                ·
                 show Act.put _ (some 88) _ = _
                 simp only [Act.put,List.setIfInBounds_toArray,List.set_cons_zero,List.set_cons_succ,i64_w,i32_w]; rfl
                refine two_ (i := 4) (j := 8) (Ni := some 89) (Nj := some 14) #[true,true,true,true,true,false,false,false,false,false,false] #[true,true,true,true,false,false,false,false,true,false,false] rfl rfl rfl rfl (two_of HT_.out (by kernel_rfl)) (by decide) (by decide) (fun K hK => ?_) (fun K hK => ?_)
                ·
                 skip
                 refine goes_ Try.func20 (by kernel_rfl) rfl #[.agg #[.int .i64 t304,.int .i64 t305,.slice Ao161 t306.length co161,.int .i64 t309,.slice Ao162 t310.length co162],.agg #[.int .i64 t313,.int .i64 t314,.string t315]] (by rfl) rfl rfl (by (try simp only [List.map_toArray,List.map_cons,List.map_nil]); first | done|rfl|(simp only [List.length_drop,List.length_take]; rfl)) ?_
                 with_reducible refine (impl_Receive.calls kj97 t304 t305 _ _ t306 t309 _ _ t310 t313 t314 t315 t316 t317 t318 t321 t322 t325 _ ?side1 ?side2 ?side3 ?side4 A148.out).mono ?_
                 (case side1 => repeat (first|exact (zI HO308.out).2.2|(with_reducible refine Kd.C_alloc ?_ _)|(with_reducible refine Kd.C_drewN ?_ _)|(with_reducible refine Kd.C_drew ?_)))
                 (case side2 => exact (zI HO308.out).2.1)
                 (case side3 => repeat (first|exact (zI HO312.out).2.2|(with_reducible refine Kd.C_alloc ?_ _)|(with_reducible refine Kd.C_drewN ?_ _)|(with_reducible refine Kd.C_drew ?_)))
                 (case side4 => exact (zI HO312.out).2.1)
                 rintro e w163 ⟨v319,v323,rfl,ho0,ho1,hb⟩
                 refine ⟨_,rfl,?_⟩
                 have n0_ := zA (Kd.Q_mono (Kd.Q_told (Kd.Q_told (Kd.Q_old (by (with_reducible repeat (first|apply Kd.Q_alloc|apply Kd.Q_drewN|apply Kd.Q_drew)); exact HO_261002.out) hb) (Kd.Q_base ho0)) (zF ho1)) (fun _ h_ => h_.1))
                 have n1_ := zA (zC (zE (zE (zM (rrA19c HO_261004.out) hb) (Kd.Q_base ho0)) (zF ho1)) (fun _ h_ => h_.1))
                 have n2_ := zA (Kd.Q_mono (Kd.Q_told (Kd.Q_told (Kd.Q_old (by (with_reducible repeat (first|apply Kd.Q_alloc|apply Kd.Q_drewN|apply Kd.Q_drew)); exact HO_271002.out) hb) (Kd.Q_base ho0)) (zF ho1)) (fun _ h_ => h_.1))
                 have n3_ := zA (zC (zE (zE (zM (rrA19c HO_271004.out) hb) (Kd.Q_base ho0)) (zF ho1)) (fun _ h_ => h_.1))
                 have n4_ := zA (Kd.Q_mono (Kd.Q_told (Kd.Q_told (Kd.Q_old (by (with_reducible repeat (first|apply Kd.Q_alloc|apply Kd.Q_drewN|apply Kd.Q_drew)); exact HO_285002.out) hb) (Kd.Q_base ho0)) (zF ho1)) (fun _ h_ => h_.1))
                 have n5_ := zA (zC (zE (zE (zM (rrA19c HO_285004.out) hb) (Kd.Q_base ho0)) (zF ho1)) (fun _ h_ => h_.1))
                 have n6_ := zA (zC (zE (zE (zM (rrA19c HO308.out) hb) (Kd.Q_base ho0)) (zF ho1)) (fun _ h_ => h_.1))
                 have n7_ := zA (zC (zE (zE (zM (rrA19c HO312.out) hb) (Kd.Q_base ho0)) (zF ho1)) (fun _ h_ => h_.1))
                 have n8_ := zA (Kd.Q_lower (Kd.Q_new' (Kd.Q_new' (Kd.Q_new' (Kd.Q_new' (Kd.Q_new' (Kd.Q_new' (Kd.Q_new' (Kd.Q_new' ho0 (Kd.Q_lt (by (with_reducible repeat (first|apply Kd.Q_alloc|apply Kd.Q_drewN|apply Kd.Q_drew)); exact HO_261002.out))) (Kd.R_lt (rrA19c HO_261004.out))) (Kd.Q_lt (by (with_reducible repeat (first|apply Kd.Q_alloc|apply Kd.Q_drewN|apply Kd.Q_drew)); exact HO_271002.out))) (Kd.R_lt (rrA19c HO_271004.out))) (Kd.Q_lt (by (with_reducible repeat (first|apply Kd.Q_alloc|apply Kd.Q_drewN|apply Kd.Q_drew)); exact HO_285002.out))) (Kd.R_lt (rrA19c HO_285004.out))) (Kd.R_lt (rrA19c HO308.out))) (Kd.R_lt (rrA19c HO312.out))) (below_size (by repeat (first|(with_reducible first|exact HB.out|apply zO|apply zQ|apply zP|refine zN ?_ GE234.out|refine zN ?_ GE235.out|refine zN ?_ GE260.out|refine zN ?_ GE270.out|refine zN ?_ GE284.out)|exact HB.out))))
                 have n9_ := zA (Kd.R_lower (zG (zG (zG (zG (zG (zG (zG (zG ho1 (Kd.Q_lt (by (with_reducible repeat (first|apply Kd.Q_alloc|apply Kd.Q_drewN|apply Kd.Q_drew)); exact HO_261002.out))) (Kd.R_lt (rrA19c HO_261004.out))) (Kd.Q_lt (by (with_reducible repeat (first|apply Kd.Q_alloc|apply Kd.Q_drewN|apply Kd.Q_drew)); exact HO_271002.out))) (Kd.R_lt (rrA19c HO_271004.out))) (Kd.Q_lt (by (with_reducible repeat (first|apply Kd.Q_alloc|apply Kd.Q_drewN|apply Kd.Q_drew)); exact HO_285002.out))) (Kd.R_lt (rrA19c HO_285004.out))) (Kd.R_lt (rrA19c HO308.out))) (Kd.R_lt (rrA19c HO312.out))) (below_size (by repeat (first|(with_reducible first|exact HB.out|apply zO|apply zQ|apply zP|refine zN ?_ GE234.out|refine zN ?_ GE235.out|refine zN ?_ GE260.out|refine zN ?_ GE270.out|refine zN ?_ GE284.out)|exact HB.out))))
                 have n10_ := zA (zV (g := gb234) (o := .cells #[.int .i64 a0_0,.int .i64 a0_1,.slice A0_2 l0_2.length c0_2,.int .i64 a0_3,.slice A0_4 l0_4.length c0_4] 24 (0,0)) (rrB19c BK234.out) hb)
                 have n11_ := zA (zV (g := gb235) (o := .cells #[.int .i64 a1_0,.int .i64 a1_1,.string a1_2] 41 (0,0)) (rrB19c BK235.out) hb)
                 have n12_ := zA (zV (g := gb260) (o := .cells #[.int .i64 t250,.int .i64 t251,.slice Ao43 t252.length co43,.int .i64 t255,.slice Ao46 t256.length co46] 26 (0,0)) (rrB19c BK260.out) hb)
                 have n13_ := zA (zV (g := gb270) (o := .cells #[.int .i64 t261,.int .i64 t262,.slice Ao56 t297.length co56,.int .i64 t266,.slice Ao57 t298.length co57] 26 (0,0)) (rrB19c BK270.out) hb)
                 have n14_ := zA (zV (g := gb284) (o := .cells #[.int .i64 t274,.int .i64 t275,.slice Ao66 t276.length co66,.int .i64 t279,.slice Ao69 t280.length co69] 26 (0,0)) (rrB19c BK284.out) hb)
                 have n15_ := zA (zZ (by repeat (first|(with_reducible first|exact HB.out|apply zO|apply zQ|apply zP|refine zN ?_ GE234.out|refine zN ?_ GE235.out|refine zN ?_ GE260.out|refine zN ?_ GE270.out|refine zN ?_ GE284.out)|exact HB.out)) hb)
                 clear HO_261002 HO_261004 HO_271002 HO_271004 HO_285002 HO_285004 HO308 HO312 BK234 BK235 BK260 BK270 BK284 HB
                 have HO_261002 := n0_
                 have HO_261004 := n1_
                 have HO_271002 := n2_
                 have HO_271004 := n3_
                 have HO_285002 := n4_
                 have HO_285004 := n5_
                 have HO308 := n6_
                 have HO312 := n7_
                 have HO320 := n8_
                 have HO324 := n9_
                 have BK234 := n10_
                 have BK235 := n11_
                 have BK260 := n12_
                 have BK270 := n13_
                 have BK284 := n14_
                 have HB := n15_
                 clear n0_ n1_ n2_ n3_ n4_ n5_ n6_ n7_ n8_ n9_ n10_ n11_ n12_ n13_ n14_ n15_
                 (try clear hb)
                 (try clear hb2)
                 (try clear hk)
                 (try clear hi)
                 (try clear ho0)
                 (try clear ho1)
                 refine hK.out _ _ ⟨(zW BK234.out 0).trans rfl,(zW BK234.out 1).trans rfl,(zW BK234.out 2).trans rfl,(zW BK234.out 3).trans rfl,(zW BK234.out 4).trans rfl,(zW BK235.out 0).trans rfl,(zW BK235.out 1).trans rfl,(zW BK235.out 2).trans rfl⟩ (fun hHeld => ?_)
                 clear hK K
                 refine norm_ (a' := ?_) ?_ ?_
                 rotate_left
                 ·
                  show Act.put _ (some 89) _ = _
                  simp only [Act.put,List.setIfInBounds_toArray,List.set_cons_zero,List.set_cons_succ,i64_w,i32_w]; rfl
                 refine pure_ (i := 5) (N := some 84) (v := ?_) (a' := ?_) #[true,true,true,true,true,true,false,false,false,false,false] rfl rfl (any_of HT_.out (by kernel_rfl)) (fun _ _ _ h => h) (Or.inl ⟨by rfl,?_⟩) ?_ ?_; rotate_left
                 · intro w'; go_simp; with_reducible rfl
                 rotate_left
                 · simp only [Act.put,List.setIfInBounds_toArray,List.set_cons_zero,List.set_cons_succ,i64_w,i32_w]; rfl
                 refine pure_ (i := 6) (N := some 90) (v := ?_) (a' := ?_) #[true,true,true,true,true,true,true,false,false,false,false] rfl rfl (any_of HT_.out (by kernel_rfl)) (fun _ _ _ h => h) (Or.inl ⟨by rfl,?_⟩) ?_ ?_; rotate_left
                 · intro w'; go_simp; with_reducible rfl
                 rotate_left
                 · simp only [Act.put,List.setIfInBounds_toArray,List.set_cons_zero,List.set_cons_succ,i64_w,i32_w]; rfl
                 refine pure_ (i := 7) (N := some 91) (v := ?_) (a' := ?_) #[true,true,true,true,true,true,true,true,false,false,false] rfl rfl (any_of HT_.out (by kernel_rfl)) (fun _ _ _ h => h) (Or.inl ⟨by rfl,?_⟩) ?_ ?_; rotate_left
                 · intro w'; go_simp; with_reducible rfl
                 rotate_left
                 · simp only [Act.put,List.setIfInBounds_toArray,List.set_cons_zero,List.set_cons_succ,i64_w,i32_w]; rfl
                 refine one_ (i := 8) (N := some 14) #[true,true,true,true,true,true,true,true,true,false,false] rfl rfl (one_of HT_.out (by kernel_rfl)) (by decide) (fun K hK => ?_)
                 refine box_step ?hg (N := 14) ?hd (cs := #[.int .i64 0,.int .i64 0,.slice none 0 0,.int .i64 0,.slice none 0 0]) (t := 26) ?hr ?_; (case hd => rfl); (case hg => rfl); (case hr => first | (go_simp; done) | (go_simp; rfl))
                 intro gb326 hg w164 hbox hb
                 have n0_ := zA (Kd.Q_below (by (with_reducible repeat (first|apply Kd.Q_alloc|apply Kd.Q_drewN|apply Kd.Q_drew)); exact HO_261002.out) hb)
                 have n1_ := zA (zD (rrA19c HO_261004.out) hb)
                 have n2_ := zA (Kd.Q_below (by (with_reducible repeat (first|apply Kd.Q_alloc|apply Kd.Q_drewN|apply Kd.Q_drew)); exact HO_271002.out) hb)
                 have n3_ := zA (zD (rrA19c HO_271004.out) hb)
                 have n4_ := zA (Kd.Q_below (by (with_reducible repeat (first|apply Kd.Q_alloc|apply Kd.Q_drewN|apply Kd.Q_drew)); exact HO_285002.out) hb)
                 have n5_ := zA (zD (rrA19c HO_285004.out) hb)
                 have n6_ := zA (zD (rrA19c HO308.out) hb)
                 have n7_ := zA (zD (rrA19c HO312.out) hb)
                 have n8_ := zA (Kd.Q_below (by (with_reducible repeat (first|apply Kd.Q_alloc|apply Kd.Q_drewN|apply Kd.Q_drew)); exact HO320.out) hb)
                 have n9_ := zA (zD (rrA19c HO324.out) hb)
                 have n10_ := zA (zV (g := gb234) (o := .cells #[.int .i64 a0_0,.int .i64 a0_1,.slice A0_2 l0_2.length c0_2,.int .i64 a0_3,.slice A0_4 l0_4.length c0_4] 24 (0,0)) (rrB19c BK234.out) hb)
                 have n11_ := zA (zV (g := gb235) (o := .cells #[.int .i64 a1_0,.int .i64 a1_1,.string a1_2] 41 (0,0)) (rrB19c BK235.out) hb)
                 have n12_ := zA (zV (g := gb260) (o := .cells #[.int .i64 t250,.int .i64 t251,.slice Ao43 t252.length co43,.int .i64 t255,.slice Ao46 t256.length co46] 26 (0,0)) (rrB19c BK260.out) hb)
                 have n13_ := zA (zV (g := gb270) (o := .cells #[.int .i64 t261,.int .i64 t262,.slice Ao56 t297.length co56,.int .i64 t266,.slice Ao57 t298.length co57] 26 (0,0)) (rrB19c BK270.out) hb)
                 have n14_ := zA (zV (g := gb284) (o := .cells #[.int .i64 t274,.int .i64 t275,.slice Ao66 t276.length co66,.int .i64 t279,.slice Ao69 t280.length co69] 26 (0,0)) (rrB19c BK284.out) hb)
                 have n15_ := zA (zZ (by repeat (first|(with_reducible first|exact HB.out|apply zO|apply zQ|apply zP|refine zN ?_ GE234.out|refine zN ?_ GE235.out|refine zN ?_ GE260.out|refine zN ?_ GE270.out|refine zN ?_ GE284.out)|exact HB.out)) hb)
                 have n16_ := zA (hbox)
                 have n17_ := zA ((by rw [hg]; exact (below_size (by repeat (first|(with_reducible first|exact HB.out|apply zO|apply zQ|apply zP|refine zN ?_ GE234.out|refine zN ?_ GE235.out|refine zN ?_ GE260.out|refine zN ?_ GE270.out|refine zN ?_ GE284.out)|exact HB.out))) : w.heap.size ≤ gb326))
                 have n18_ := zA ((by rw [hg]; exact (below_size (by repeat (first|(with_reducible first|exact HB.out|apply zO|apply zQ|apply zP|refine zN ?_ GE234.out|refine zN ?_ GE235.out|refine zN ?_ GE260.out|refine zN ?_ GE270.out|refine zN ?_ GE284.out)|exact HB.out))) : w.heap.size ≤ gb326))
                 have n19_ := zA ((by rw [hg]; exact Nat.ne_of_lt (blk_lt (g := gb234) (o := .cells #[.int .i64 a0_0,.int .i64 a0_1,.slice A0_2 l0_2.length c0_2,.int .i64 a0_3,.slice A0_4 l0_4.length c0_4] 24 (0,0)) (rrB19c BK234.out)) : gb234 ≠ gb326))
                 have n20_ := zA ((by rw [hg]; exact Nat.ne_of_gt (blk_lt (g := gb234) (o := .cells #[.int .i64 a0_0,.int .i64 a0_1,.slice A0_2 l0_2.length c0_2,.int .i64 a0_3,.slice A0_4 l0_4.length c0_4] 24 (0,0)) (rrB19c BK234.out)) : gb326 ≠ gb234))
                 have n21_ := zA ((by rw [hg]; exact Nat.ne_of_lt (blk_lt (g := gb235) (o := .cells #[.int .i64 a1_0,.int .i64 a1_1,.string a1_2] 41 (0,0)) (rrB19c BK235.out)) : gb235 ≠ gb326))
                 have n22_ := zA ((by rw [hg]; exact Nat.ne_of_gt (blk_lt (g := gb235) (o := .cells #[.int .i64 a1_0,.int .i64 a1_1,.string a1_2] 41 (0,0)) (rrB19c BK235.out)) : gb326 ≠ gb235))
                 have n23_ := zA ((by rw [hg]; exact Nat.ne_of_lt (blk_lt (g := gb260) (o := .cells #[.int .i64 t250,.int .i64 t251,.slice Ao43 t252.length co43,.int .i64 t255,.slice Ao46 t256.length co46] 26 (0,0)) (rrB19c BK260.out)) : gb260 ≠ gb326))
                 have n24_ := zA ((by rw [hg]; exact Nat.ne_of_gt (blk_lt (g := gb260) (o := .cells #[.int .i64 t250,.int .i64 t251,.slice Ao43 t252.length co43,.int .i64 t255,.slice Ao46 t256.length co46] 26 (0,0)) (rrB19c BK260.out)) : gb326 ≠ gb260))
                 have n25_ := zA ((by rw [hg]; exact Nat.ne_of_lt (blk_lt (g := gb270) (o := .cells #[.int .i64 t261,.int .i64 t262,.slice Ao56 t297.length co56,.int .i64 t266,.slice Ao57 t298.length co57] 26 (0,0)) (rrB19c BK270.out)) : gb270 ≠ gb326))
                 have n26_ := zA ((by rw [hg]; exact Nat.ne_of_gt (blk_lt (g := gb270) (o := .cells #[.int .i64 t261,.int .i64 t262,.slice Ao56 t297.length co56,.int .i64 t266,.slice Ao57 t298.length co57] 26 (0,0)) (rrB19c BK270.out)) : gb326 ≠ gb270))
                 have n27_ := zA ((by rw [hg]; exact Nat.ne_of_lt (blk_lt (g := gb284) (o := .cells #[.int .i64 t274,.int .i64 t275,.slice Ao66 t276.length co66,.int .i64 t279,.slice Ao69 t280.length co69] 26 (0,0)) (rrB19c BK284.out)) : gb284 ≠ gb326))
                 have n28_ := zA ((by rw [hg]; exact Nat.ne_of_gt (blk_lt (g := gb284) (o := .cells #[.int .i64 t274,.int .i64 t275,.slice Ao66 t276.length co66,.int .i64 t279,.slice Ao69 t280.length co69] 26 (0,0)) (rrB19c BK284.out)) : gb326 ≠ gb284))
                 clear HO_261002 HO_261004 HO_271002 HO_271004 HO_285002 HO_285004 HO308 HO312 HO320 HO324 BK234 BK235 BK260 BK270 BK284 HB
                 have HO_261002 := n0_
                 have HO_261004 := n1_
                 have HO_271002 := n2_
                 have HO_271004 := n3_
                 have HO_285002 := n4_
                 have HO_285004 := n5_
                 have HO308 := n6_
                 have HO312 := n7_
                 have HO320 := n8_
                 have HO324 := n9_
                 have BK234 := n10_
                 have BK235 := n11_
                 have BK260 := n12_
                 have BK270 := n13_
                 have BK284 := n14_
                 have HB := n15_
                 have BK326 := n16_
                 have GW326 := n17_
                 have GE326 := n18_
                 have NB234_326 := n19_
                 have NB326_234 := n20_
                 have NB235_326 := n21_
                 have NB326_235 := n22_
                 have NB260_326 := n23_
                 have NB326_260 := n24_
                 have NB270_326 := n25_
                 have NB326_270 := n26_
                 have NB284_326 := n27_
                 have NB326_284 := n28_
                 clear n0_ n1_ n2_ n3_ n4_ n5_ n6_ n7_ n8_ n9_ n10_ n11_ n12_ n13_ n14_ n15_ n16_ n17_ n18_ n19_ n20_ n21_ n22_ n23_ n24_ n25_ n26_ n27_ n28_ hb hbox hg
                 refine hK.out _ _ ⟨(zW BK234.out 0).trans rfl,(zW BK234.out 1).trans rfl,(zW BK234.out 2).trans rfl,(zW BK234.out 3).trans rfl,(zW BK234.out 4).trans rfl,(zW BK235.out 0).trans rfl,(zW BK235.out 1).trans rfl,(zW BK235.out 2).trans rfl⟩ (fun hHeld => ?_)
                 clear hK K
                 refine norm_ (a' := ?_) ?_ ?_
                 rotate_left
                 ·
                  show Act.put _ (some 14) _ = _
                  simp only [Act.put,List.setIfInBounds_toArray,List.set_cons_zero,List.set_cons_succ,i64_w,i32_w]; rfl
                 exact norm_ (by simp only [putAll,Act.put,List.setIfInBounds_toArray,List.set_cons_zero,List.set_cons_succ]) (hCont (.slice Ao161 t306.length co161,.slice Ao162 t310.length co162,v319,v323,gb326) _ ⟨hHeld,(by (with_reducible repeat (first|apply zJ|apply zK|apply zL)); exact zC HO308.out (fun _ hk => ⟨hk.1.1.1.1.1.1.1.1,⟨hk.1.2,⟨hk.2,⟨hk.1.1.1.1.1.1.1.2,⟨hk.1.1.1.1.1.1.2,⟨hk.1.1.1.1.1.2,⟨hk.1.1.1.1.2,⟨hk.1.1.1.2,hk.1.1.2⟩⟩⟩⟩⟩⟩⟩⟩)),(by (with_reducible repeat (first|apply zJ|apply zK|apply zL)); exact zC HO312.out (fun _ hk => ⟨hk.1.1.1.1.1.1.1.1,⟨hk.1.2,⟨hk.2,⟨hk.1.1.1.1.1.1.1.2,⟨hk.1.1.1.1.1.1.2,⟨hk.1.1.1.1.1.2,⟨hk.1.1.1.1.2,⟨hk.1.1.1.2,hk.1.1.2⟩⟩⟩⟩⟩⟩⟩⟩)),(by (with_reducible repeat (first|apply Kd.Q_alloc|apply Kd.Q_drewN|apply Kd.Q_drew)); exact Kd.Q_mono HO320.out (fun _ hk => ⟨hk.1.2,⟨hk.2,⟨hk.1.1.1.1.1.1.1.1,⟨hk.1.1.1.1.1.1.1.2,⟨hk.1.1.1.1.1.1.2,⟨hk.1.1.1.1.1.2,⟨hk.1.1.1.1.2,⟨hk.1.1.1.2,hk.1.1.2⟩⟩⟩⟩⟩⟩⟩⟩)),(by (with_reducible repeat (first|apply zJ|apply zK|apply zL)); exact zC HO324.out (fun _ hk => ⟨hk.1.2,⟨hk.2,⟨hk.1.1.1.1.1.1.1.1,⟨hk.1.1.1.1.1.1.1.2,⟨hk.1.1.1.1.1.1.2,⟨hk.1.1.1.1.1.2,⟨hk.1.1.1.1.2,⟨hk.1.1.1.2,hk.1.1.2⟩⟩⟩⟩⟩⟩⟩⟩)),(by (with_reducible repeat (first|apply Kd.Q_alloc|apply Kd.Q_drewN|apply Kd.Q_drew)); exact Kd.Q_mono HO_261002.out (fun _ hk => ⟨hk.1.1.1.2,⟨hk.1.1.2,⟨hk.1.2,⟨hk.2,⟨hk.1.1.1.1.1,⟨hk.1.1.1.1.2.1,⟨hk.1.1.1.1.2.2.1,⟨hk.1.1.1.1.2.2.2.1,hk.1.1.1.1.2.2.2.2⟩⟩⟩⟩⟩⟩⟩⟩)),(by (with_reducible repeat (first|apply zJ|apply zK|apply zL)); exact zC HO_261004.out (fun _ hk => ⟨hk.1.1.1.2,⟨hk.1.1.2,⟨hk.1.2,⟨hk.2,⟨hk.1.1.1.1.1,⟨hk.1.1.1.1.2.1,⟨hk.1.1.1.1.2.2.1,⟨hk.1.1.1.1.2.2.2.1,hk.1.1.1.1.2.2.2.2⟩⟩⟩⟩⟩⟩⟩⟩)),(by (with_reducible repeat (first|apply Kd.Q_alloc|apply Kd.Q_drewN|apply Kd.Q_drew)); exact Kd.Q_mono HO_271002.out (fun _ hk => ⟨hk.1.1.1.2,⟨hk.1.1.2,⟨hk.1.2,⟨hk.2,⟨hk.1.1.1.1.1,⟨hk.1.1.1.1.2.1,⟨hk.1.1.1.1.2.2.1,⟨hk.1.1.1.1.2.2.2.1,hk.1.1.1.1.2.2.2.2⟩⟩⟩⟩⟩⟩⟩⟩)),(by (with_reducible repeat (first|apply zJ|apply zK|apply zL)); exact zC HO_271004.out (fun _ hk => ⟨hk.1.1.1.2,⟨hk.1.1.2,⟨hk.1.2,⟨hk.2,⟨hk.1.1.1.1.1,⟨hk.1.1.1.1.2.1,⟨hk.1.1.1.1.2.2.1,⟨hk.1.1.1.1.2.2.2.1,hk.1.1.1.1.2.2.2.2⟩⟩⟩⟩⟩⟩⟩⟩)),(by (with_reducible repeat (first|apply Kd.Q_alloc|apply Kd.Q_drewN|apply Kd.Q_drew)); exact Kd.Q_mono HO_285002.out (fun _ hk => ⟨hk.1.1.1.2,⟨hk.1.1.2,⟨hk.1.2,⟨hk.2,⟨hk.1.1.1.1.1,⟨hk.1.1.1.1.2.1,⟨hk.1.1.1.1.2.2.1,⟨hk.1.1.1.1.2.2.2.1,hk.1.1.1.1.2.2.2.2⟩⟩⟩⟩⟩⟩⟩⟩)),(by (with_reducible repeat (first|apply zJ|apply zK|apply zL)); exact zC HO_285004.out (fun _ hk => ⟨hk.1.1.1.2,⟨hk.1.1.2,⟨hk.1.2,⟨hk.2,⟨hk.1.1.1.1.1,⟨hk.1.1.1.1.2.1,⟨hk.1.1.1.1.2.2.1,⟨hk.1.1.1.1.2.2.2.1,hk.1.1.1.1.2.2.2.2⟩⟩⟩⟩⟩⟩⟩⟩)),(rrB19c BK234.out),(rrB19c BK235.out),(rrB19c BK260.out),(rrB19c BK270.out),(rrB19c BK284.out),(rrB19c BK326.out),GW326.out,GE326.out,NB234_326.out,NB326_234.out,NB235_326.out,NB326_235.out,NB260_326.out,NB326_260.out,NB270_326.out,NB326_270.out,NB284_326.out,NB326_284.out,(by repeat (first|(with_reducible first|exact HB.out|apply zO|apply zQ|apply zP|refine zN ?_ GE234.out|refine zN ?_ GE235.out|refine zN ?_ GE260.out|refine zN ?_ GE270.out|refine zN ?_ GE284.out|refine zN ?_ GE326.out)|exact HB.out))⟩)
                ·
                 skip
                 refine box_step ?hg (N := 14) ?hd (cs := #[.int .i64 0,.int .i64 0,.slice none 0 0,.int .i64 0,.slice none 0 0]) (t := 26) ?hr ?_; (case hd => rfl); (case hg => rfl); (case hr => first | (go_simp; done) | (go_simp; rfl))
                 intro gb326 hg w161 hbox hb
                 have n0_ := zA (Kd.Q_below (by (with_reducible repeat (first|apply Kd.Q_alloc|apply Kd.Q_drewN|apply Kd.Q_drew)); exact HO_261002.out) hb)
                 have n1_ := zA (zD (rrA19c HO_261004.out) hb)
                 have n2_ := zA (Kd.Q_below (by (with_reducible repeat (first|apply Kd.Q_alloc|apply Kd.Q_drewN|apply Kd.Q_drew)); exact HO_271002.out) hb)
                 have n3_ := zA (zD (rrA19c HO_271004.out) hb)
                 have n4_ := zA (Kd.Q_below (by (with_reducible repeat (first|apply Kd.Q_alloc|apply Kd.Q_drewN|apply Kd.Q_drew)); exact HO_285002.out) hb)
                 have n5_ := zA (zD (rrA19c HO_285004.out) hb)
                 have n6_ := zA (zD (rrA19c HO308.out) hb)
                 have n7_ := zA (zD (rrA19c HO312.out) hb)
                 have n8_ := zA (zV (g := gb234) (o := .cells #[.int .i64 a0_0,.int .i64 a0_1,.slice A0_2 l0_2.length c0_2,.int .i64 a0_3,.slice A0_4 l0_4.length c0_4] 24 (0,0)) (rrB19c BK234.out) hb)
                 have n9_ := zA (zV (g := gb235) (o := .cells #[.int .i64 a1_0,.int .i64 a1_1,.string a1_2] 41 (0,0)) (rrB19c BK235.out) hb)
                 have n10_ := zA (zV (g := gb260) (o := .cells #[.int .i64 t250,.int .i64 t251,.slice Ao43 t252.length co43,.int .i64 t255,.slice Ao46 t256.length co46] 26 (0,0)) (rrB19c BK260.out) hb)
                 have n11_ := zA (zV (g := gb270) (o := .cells #[.int .i64 t261,.int .i64 t262,.slice Ao56 t297.length co56,.int .i64 t266,.slice Ao57 t298.length co57] 26 (0,0)) (rrB19c BK270.out) hb)
                 have n12_ := zA (zV (g := gb284) (o := .cells #[.int .i64 t274,.int .i64 t275,.slice Ao66 t276.length co66,.int .i64 t279,.slice Ao69 t280.length co69] 26 (0,0)) (rrB19c BK284.out) hb)
                 have n13_ := zA (zZ (by repeat (first|(with_reducible first|exact HB.out|apply zO|apply zQ|apply zP|refine zN ?_ GE234.out|refine zN ?_ GE235.out|refine zN ?_ GE260.out|refine zN ?_ GE270.out|refine zN ?_ GE284.out)|exact HB.out)) hb)
                 have n14_ := zA (hbox)
                 have n15_ := zA ((by rw [hg]; exact (below_size (by repeat (first|(with_reducible first|exact HB.out|apply zO|apply zQ|apply zP|refine zN ?_ GE234.out|refine zN ?_ GE235.out|refine zN ?_ GE260.out|refine zN ?_ GE270.out|refine zN ?_ GE284.out)|exact HB.out))) : w.heap.size ≤ gb326))
                 have n16_ := zA ((by rw [hg]; exact (below_size (by repeat (first|(with_reducible first|exact HB.out|apply zO|apply zQ|apply zP|refine zN ?_ GE234.out|refine zN ?_ GE235.out|refine zN ?_ GE260.out|refine zN ?_ GE270.out|refine zN ?_ GE284.out)|exact HB.out))) : w.heap.size ≤ gb326))
                 have n17_ := zA ((by rw [hg]; exact Nat.ne_of_lt (blk_lt (g := gb234) (o := .cells #[.int .i64 a0_0,.int .i64 a0_1,.slice A0_2 l0_2.length c0_2,.int .i64 a0_3,.slice A0_4 l0_4.length c0_4] 24 (0,0)) (rrB19c BK234.out)) : gb234 ≠ gb326))
                 have n18_ := zA ((by rw [hg]; exact Nat.ne_of_gt (blk_lt (g := gb234) (o := .cells #[.int .i64 a0_0,.int .i64 a0_1,.slice A0_2 l0_2.length c0_2,.int .i64 a0_3,.slice A0_4 l0_4.length c0_4] 24 (0,0)) (rrB19c BK234.out)) : gb326 ≠ gb234))
                 have n19_ := zA ((by rw [hg]; exact Nat.ne_of_lt (blk_lt (g := gb235) (o := .cells #[.int .i64 a1_0,.int .i64 a1_1,.string a1_2] 41 (0,0)) (rrB19c BK235.out)) : gb235 ≠ gb326))
                 have n20_ := zA ((by rw [hg]; exact Nat.ne_of_gt (blk_lt (g := gb235) (o := .cells #[.int .i64 a1_0,.int .i64 a1_1,.string a1_2] 41 (0,0)) (rrB19c BK235.out)) : gb326 ≠ gb235))
                 have n21_ := zA ((by rw [hg]; exact Nat.ne_of_lt (blk_lt (g := gb260) (o := .cells #[.int .i64 t250,.int .i64 t251,.slice Ao43 t252.length co43,.int .i64 t255,.slice Ao46 t256.length co46] 26 (0,0)) (rrB19c BK260.out)) : gb260 ≠ gb326))
                 have n22_ := zA ((by rw [hg]; exact Nat.ne_of_gt (blk_lt (g := gb260) (o := .cells #[.int .i64 t250,.int .i64 t251,.slice Ao43 t252.length co43,.int .i64 t255,.slice Ao46 t256.length co46] 26 (0,0)) (rrB19c BK260.out)) : gb326 ≠ gb260))
                 have n23_ := zA ((by rw [hg]; exact Nat.ne_of_lt (blk_lt (g := gb270) (o := .cells #[.int .i64 t261,.int .i64 t262,.slice Ao56 t297.length co56,.int .i64 t266,.slice Ao57 t298.length co57] 26 (0,0)) (rrB19c BK270.out)) : gb270 ≠ gb326))
                 have n24_ := zA ((by rw [hg]; exact Nat.ne_of_gt (blk_lt (g := gb270) (o := .cells #[.int .i64 t261,.int .i64 t262,.slice Ao56 t297.length co56,.int .i64 t266,.slice Ao57 t298.length co57] 26 (0,0)) (rrB19c BK270.out)) : gb326 ≠ gb270))
                 have n25_ := zA ((by rw [hg]; exact Nat.ne_of_lt (blk_lt (g := gb284) (o := .cells #[.int .i64 t274,.int .i64 t275,.slice Ao66 t276.length co66,.int .i64 t279,.slice Ao69 t280.length co69] 26 (0,0)) (rrB19c BK284.out)) : gb284 ≠ gb326))
                 have n26_ := zA ((by rw [hg]; exact Nat.ne_of_gt (blk_lt (g := gb284) (o := .cells #[.int .i64 t274,.int .i64 t275,.slice Ao66 t276.length co66,.int .i64 t279,.slice Ao69 t280.length co69] 26 (0,0)) (rrB19c BK284.out)) : gb326 ≠ gb284))
                 clear HO_261002 HO_261004 HO_271002 HO_271004 HO_285002 HO_285004 HO308 HO312 BK234 BK235 BK260 BK270 BK284 HB
                 have HO_261002 := n0_
                 have HO_261004 := n1_
                 have HO_271002 := n2_
                 have HO_271004 := n3_
                 have HO_285002 := n4_
                 have HO_285004 := n5_
                 have HO308 := n6_
                 have HO312 := n7_
                 have BK234 := n8_
                 have BK235 := n9_
                 have BK260 := n10_
                 have BK270 := n11_
                 have BK284 := n12_
                 have HB := n13_
                 have BK326 := n14_
                 have GW326 := n15_
                 have GE326 := n16_
                 have NB234_326 := n17_
                 have NB326_234 := n18_
                 have NB235_326 := n19_
                 have NB326_235 := n20_
                 have NB260_326 := n21_
                 have NB326_260 := n22_
                 have NB270_326 := n23_
                 have NB326_270 := n24_
                 have NB284_326 := n25_
                 have NB326_284 := n26_
                 clear n0_ n1_ n2_ n3_ n4_ n5_ n6_ n7_ n8_ n9_ n10_ n11_ n12_ n13_ n14_ n15_ n16_ n17_ n18_ n19_ n20_ n21_ n22_ n23_ n24_ n25_ n26_ hb hbox hg
                 obtain ⟨Ao162,co162,eo162⟩ := Kd.R_slice HO308.out
                 (first | subst eo162 | (injection eo162 with f1_ f2_ f3_; have f4_ := f1_.symm; have f5_ := f3_.symm; clear f1_ f2_ f3_; subst f4_; subst f5_))
                 obtain ⟨Ao163,co163,eo163⟩ := Kd.R_slice HO312.out
                 (first | subst eo163 | (injection eo163 with f1_ f2_ f3_; have f4_ := f1_.symm; have f5_ := f3_.symm; clear f1_ f2_ f3_; subst f4_; subst f5_))
                 refine hK.out _ _ ⟨(zW BK234.out 0).trans rfl,(zW BK234.out 1).trans rfl,(zW BK234.out 2).trans rfl,(zW BK234.out 3).trans rfl,(zW BK234.out 4).trans rfl,(zW BK235.out 0).trans rfl,(zW BK235.out 1).trans rfl,(zW BK235.out 2).trans rfl⟩ (fun hHeld => ?_)
                 clear hK K
                 refine norm_ (a' := ?_) ?_ ?_
                 rotate_left
                 ·
                  show Act.put _ (some 14) _ = _
                  simp only [Act.put,List.setIfInBounds_toArray,List.set_cons_zero,List.set_cons_succ,i64_w,i32_w]; rfl
                 refine one_ (i := 4) (N := some 89) #[true,true,true,true,true,false,false,false,true,false,false] rfl rfl (one_of HT_.out (by kernel_rfl)) (by decide) (fun K hK => ?_)
                 refine goes_ Try.func20 (by kernel_rfl) rfl #[.agg #[.int .i64 t304,.int .i64 t305,.slice Ao162 t306.length co162,.int .i64 t309,.slice Ao163 t310.length co163],.agg #[.int .i64 t313,.int .i64 t314,.string t315]] (by rfl) rfl rfl (by (try simp only [List.map_toArray,List.map_cons,List.map_nil]); first | done|rfl|(simp only [List.length_drop,List.length_take]; rfl)) ?_
                 with_reducible refine (impl_Receive.calls kj97 t304 t305 _ _ t306 t309 _ _ t310 t313 t314 t315 t316 t317 t318 t321 t322 t325 _ ?side1 ?side2 ?side3 ?side4 A148.out).mono ?_
                 (case side1 => repeat (first|exact (zI HO308.out).2.2|(with_reducible refine Kd.C_alloc ?_ _)|(with_reducible refine Kd.C_drewN ?_ _)|(with_reducible refine Kd.C_drew ?_)))
                 (case side2 => exact (zI HO308.out).2.1)
                 (case side3 => repeat (first|exact (zI HO312.out).2.2|(with_reducible refine Kd.C_alloc ?_ _)|(with_reducible refine Kd.C_drewN ?_ _)|(with_reducible refine Kd.C_drew ?_)))
                 (case side4 => exact (zI HO312.out).2.1)
                 rintro e w164 ⟨v319,v323,rfl,ho0,ho1,hb⟩
                 refine ⟨_,rfl,?_⟩
                 have n0_ := zA (Kd.Q_mono (Kd.Q_told (Kd.Q_told (Kd.Q_old (by (with_reducible repeat (first|apply Kd.Q_alloc|apply Kd.Q_drewN|apply Kd.Q_drew)); exact HO_261002.out) hb) (Kd.Q_base ho0)) (zF ho1)) (fun _ h_ => h_.1))
                 have n1_ := zA (zC (zE (zE (zM (rrA19c HO_261004.out) hb) (Kd.Q_base ho0)) (zF ho1)) (fun _ h_ => h_.1))
                 have n2_ := zA (Kd.Q_mono (Kd.Q_told (Kd.Q_told (Kd.Q_old (by (with_reducible repeat (first|apply Kd.Q_alloc|apply Kd.Q_drewN|apply Kd.Q_drew)); exact HO_271002.out) hb) (Kd.Q_base ho0)) (zF ho1)) (fun _ h_ => h_.1))
                 have n3_ := zA (zC (zE (zE (zM (rrA19c HO_271004.out) hb) (Kd.Q_base ho0)) (zF ho1)) (fun _ h_ => h_.1))
                 have n4_ := zA (Kd.Q_mono (Kd.Q_told (Kd.Q_told (Kd.Q_old (by (with_reducible repeat (first|apply Kd.Q_alloc|apply Kd.Q_drewN|apply Kd.Q_drew)); exact HO_285002.out) hb) (Kd.Q_base ho0)) (zF ho1)) (fun _ h_ => h_.1))
                 have n5_ := zA (zC (zE (zE (zM (rrA19c HO_285004.out) hb) (Kd.Q_base ho0)) (zF ho1)) (fun _ h_ => h_.1))
                 have n6_ := zA (zC (zE (zE (zM (rrA19c HO308.out) hb) (Kd.Q_base ho0)) (zF ho1)) (fun _ h_ => h_.1))
                 have n7_ := zA (zC (zE (zE (zM (rrA19c HO312.out) hb) (Kd.Q_base ho0)) (zF ho1)) (fun _ h_ => h_.1))
                 have n8_ := zA (Kd.Q_lower (Kd.Q_new' (Kd.Q_new' (Kd.Q_new' (Kd.Q_new' (Kd.Q_new' (Kd.Q_new' (Kd.Q_new' (Kd.Q_new' ho0 (Kd.Q_lt (by (with_reducible repeat (first|apply Kd.Q_alloc|apply Kd.Q_drewN|apply Kd.Q_drew)); exact HO_261002.out))) (Kd.R_lt (rrA19c HO_261004.out))) (Kd.Q_lt (by (with_reducible repeat (first|apply Kd.Q_alloc|apply Kd.Q_drewN|apply Kd.Q_drew)); exact HO_271002.out))) (Kd.R_lt (rrA19c HO_271004.out))) (Kd.Q_lt (by (with_reducible repeat (first|apply Kd.Q_alloc|apply Kd.Q_drewN|apply Kd.Q_drew)); exact HO_285002.out))) (Kd.R_lt (rrA19c HO_285004.out))) (Kd.R_lt (rrA19c HO308.out))) (Kd.R_lt (rrA19c HO312.out))) (below_size (by repeat (first|(with_reducible first|exact HB.out|apply zO|apply zQ|apply zP|refine zN ?_ GE234.out|refine zN ?_ GE235.out|refine zN ?_ GE260.out|refine zN ?_ GE270.out|refine zN ?_ GE284.out|refine zN ?_ GE326.out)|exact HB.out))))
                 have n9_ := zA (Kd.R_lower (zG (zG (zG (zG (zG (zG (zG (zG ho1 (Kd.Q_lt (by (with_reducible repeat (first|apply Kd.Q_alloc|apply Kd.Q_drewN|apply Kd.Q_drew)); exact HO_261002.out))) (Kd.R_lt (rrA19c HO_261004.out))) (Kd.Q_lt (by (with_reducible repeat (first|apply Kd.Q_alloc|apply Kd.Q_drewN|apply Kd.Q_drew)); exact HO_271002.out))) (Kd.R_lt (rrA19c HO_271004.out))) (Kd.Q_lt (by (with_reducible repeat (first|apply Kd.Q_alloc|apply Kd.Q_drewN|apply Kd.Q_drew)); exact HO_285002.out))) (Kd.R_lt (rrA19c HO_285004.out))) (Kd.R_lt (rrA19c HO308.out))) (Kd.R_lt (rrA19c HO312.out))) (below_size (by repeat (first|(with_reducible first|exact HB.out|apply zO|apply zQ|apply zP|refine zN ?_ GE234.out|refine zN ?_ GE235.out|refine zN ?_ GE260.out|refine zN ?_ GE270.out|refine zN ?_ GE284.out|refine zN ?_ GE326.out)|exact HB.out))))
                 have n10_ := zA (zV (g := gb234) (o := .cells #[.int .i64 a0_0,.int .i64 a0_1,.slice A0_2 l0_2.length c0_2,.int .i64 a0_3,.slice A0_4 l0_4.length c0_4] 24 (0,0)) (rrB19c BK234.out) hb)
                 have n11_ := zA (zV (g := gb235) (o := .cells #[.int .i64 a1_0,.int .i64 a1_1,.string a1_2] 41 (0,0)) (rrB19c BK235.out) hb)
                 have n12_ := zA (zV (g := gb260) (o := .cells #[.int .i64 t250,.int .i64 t251,.slice Ao43 t252.length co43,.int .i64 t255,.slice Ao46 t256.length co46] 26 (0,0)) (rrB19c BK260.out) hb)
                 have n13_ := zA (zV (g := gb270) (o := .cells #[.int .i64 t261,.int .i64 t262,.slice Ao56 t297.length co56,.int .i64 t266,.slice Ao57 t298.length co57] 26 (0,0)) (rrB19c BK270.out) hb)
                 have n14_ := zA (zV (g := gb284) (o := .cells #[.int .i64 t274,.int .i64 t275,.slice Ao66 t276.length co66,.int .i64 t279,.slice Ao69 t280.length co69] 26 (0,0)) (rrB19c BK284.out) hb)
                 have n15_ := zA (zV (g := gb326) (o := .cells #[.int .i64 0,.int .i64 0,.slice none 0 0,.int .i64 0,.slice none 0 0] 26 (0,0)) (rrB19c BK326.out) hb)
                 have n16_ := zA (zZ (by repeat (first|(with_reducible first|exact HB.out|apply zO|apply zQ|apply zP|refine zN ?_ GE234.out|refine zN ?_ GE235.out|refine zN ?_ GE260.out|refine zN ?_ GE270.out|refine zN ?_ GE284.out|refine zN ?_ GE326.out)|exact HB.out)) hb)
                 clear HO_261002 HO_261004 HO_271002 HO_271004 HO_285002 HO_285004 HO308 HO312 BK234 BK235 BK260 BK270 BK284 BK326 HB
                 have HO_261002 := n0_
                 have HO_261004 := n1_
                 have HO_271002 := n2_
                 have HO_271004 := n3_
                 have HO_285002 := n4_
                 have HO_285004 := n5_
                 have HO308 := n6_
                 have HO312 := n7_
                 have HO320 := n8_
                 have HO324 := n9_
                 have BK234 := n10_
                 have BK235 := n11_
                 have BK260 := n12_
                 have BK270 := n13_
                 have BK284 := n14_
                 have BK326 := n15_
                 have HB := n16_
                 clear n0_ n1_ n2_ n3_ n4_ n5_ n6_ n7_ n8_ n9_ n10_ n11_ n12_ n13_ n14_ n15_ n16_
                 (try clear hb)
                 (try clear hb2)
                 (try clear hk)
                 (try clear hi)
                 (try clear ho0)
                 (try clear ho1)
                 refine hK.out _ _ ⟨(zW BK234.out 0).trans rfl,(zW BK234.out 1).trans rfl,(zW BK234.out 2).trans rfl,(zW BK234.out 3).trans rfl,(zW BK234.out 4).trans rfl,(zW BK235.out 0).trans rfl,(zW BK235.out 1).trans rfl,(zW BK235.out 2).trans rfl⟩ (fun hHeld => ?_)
                 clear hK K
                 refine norm_ (a' := ?_) ?_ ?_
                 rotate_left
                 ·
                  show Act.put _ (some 89) _ = _
                  simp only [Act.put,List.setIfInBounds_toArray,List.set_cons_zero,List.set_cons_succ,i64_w,i32_w]; rfl
                 refine pure_ (i := 5) (N := some 84) (v := ?_) (a' := ?_) #[true,true,true,true,true,true,false,false,true,false,false] rfl rfl (any_of HT_.out (by kernel_rfl)) (fun _ _ _ h => h) (Or.inl ⟨by rfl,?_⟩) ?_ ?_; rotate_left
                 · intro w'; go_simp; with_reducible rfl
                 rotate_left
                 · simp only [Act.put,List.setIfInBounds_toArray,List.set_cons_zero,List.set_cons_succ,i64_w,i32_w]; rfl
                 refine pure_ (i := 6) (N := some 90) (v := ?_) (a' := ?_) #[true,true,true,true,true,true,true,false,true,false,false] rfl rfl (any_of HT_.out (by kernel_rfl)) (fun _ _ _ h => h) (Or.inl ⟨by rfl,?_⟩) ?_ ?_; rotate_left
                 · intro w'; go_simp; with_reducible rfl
                 rotate_left
                 · simp only [Act.put,List.setIfInBounds_toArray,List.set_cons_zero,List.set_cons_succ,i64_w,i32_w]; rfl
                 refine pure_ (i := 7) (N := some 91) (v := ?_) (a' := ?_) #[true,true,true,true,true,true,true,true,true,false,false] rfl rfl (any_of HT_.out (by kernel_rfl)) (fun _ _ _ h => h) (Or.inl ⟨by rfl,?_⟩) ?_ ?_; rotate_left
                 · intro w'; go_simp; with_reducible rfl
                 rotate_left
                 · simp only [Act.put,List.setIfInBounds_toArray,List.set_cons_zero,List.set_cons_succ,i64_w,i32_w]; rfl
                 exact norm_ (by simp only [putAll,Act.put,List.setIfInBounds_toArray,List.set_cons_zero,List.set_cons_succ]) (hCont (.slice Ao162 t306.length co162,.slice Ao163 t310.length co163,v319,v323,gb326) _ ⟨hHeld,(by (with_reducible repeat (first|apply zJ|apply zK|apply zL)); exact zC HO308.out (fun _ hk => ⟨hk.1.1.1.1.1.1.1.1,⟨hk.1.2,⟨hk.2,⟨hk.1.1.1.1.1.1.1.2,⟨hk.1.1.1.1.1.1.2,⟨hk.1.1.1.1.1.2,⟨hk.1.1.1.1.2,⟨hk.1.1.1.2,hk.1.1.2⟩⟩⟩⟩⟩⟩⟩⟩)),(by (with_reducible repeat (first|apply zJ|apply zK|apply zL)); exact zC HO312.out (fun _ hk => ⟨hk.1.1.1.1.1.1.1.1,⟨hk.1.2,⟨hk.2,⟨hk.1.1.1.1.1.1.1.2,⟨hk.1.1.1.1.1.1.2,⟨hk.1.1.1.1.1.2,⟨hk.1.1.1.1.2,⟨hk.1.1.1.2,hk.1.1.2⟩⟩⟩⟩⟩⟩⟩⟩)),(by (with_reducible repeat (first|apply Kd.Q_alloc|apply Kd.Q_drewN|apply Kd.Q_drew)); exact Kd.Q_mono HO320.out (fun _ hk => ⟨hk.1.2,⟨hk.2,⟨hk.1.1.1.1.1.1.1.1,⟨hk.1.1.1.1.1.1.1.2,⟨hk.1.1.1.1.1.1.2,⟨hk.1.1.1.1.1.2,⟨hk.1.1.1.1.2,⟨hk.1.1.1.2,hk.1.1.2⟩⟩⟩⟩⟩⟩⟩⟩)),(by (with_reducible repeat (first|apply zJ|apply zK|apply zL)); exact zC HO324.out (fun _ hk => ⟨hk.1.2,⟨hk.2,⟨hk.1.1.1.1.1.1.1.1,⟨hk.1.1.1.1.1.1.1.2,⟨hk.1.1.1.1.1.1.2,⟨hk.1.1.1.1.1.2,⟨hk.1.1.1.1.2,⟨hk.1.1.1.2,hk.1.1.2⟩⟩⟩⟩⟩⟩⟩⟩)),(by (with_reducible repeat (first|apply Kd.Q_alloc|apply Kd.Q_drewN|apply Kd.Q_drew)); exact Kd.Q_mono HO_261002.out (fun _ hk => ⟨hk.1.1.1.2,⟨hk.1.1.2,⟨hk.1.2,⟨hk.2,⟨hk.1.1.1.1.1,⟨hk.1.1.1.1.2.1,⟨hk.1.1.1.1.2.2.1,⟨hk.1.1.1.1.2.2.2.1,hk.1.1.1.1.2.2.2.2⟩⟩⟩⟩⟩⟩⟩⟩)),(by (with_reducible repeat (first|apply zJ|apply zK|apply zL)); exact zC HO_261004.out (fun _ hk => ⟨hk.1.1.1.2,⟨hk.1.1.2,⟨hk.1.2,⟨hk.2,⟨hk.1.1.1.1.1,⟨hk.1.1.1.1.2.1,⟨hk.1.1.1.1.2.2.1,⟨hk.1.1.1.1.2.2.2.1,hk.1.1.1.1.2.2.2.2⟩⟩⟩⟩⟩⟩⟩⟩)),(by (with_reducible repeat (first|apply Kd.Q_alloc|apply Kd.Q_drewN|apply Kd.Q_drew)); exact Kd.Q_mono HO_271002.out (fun _ hk => ⟨hk.1.1.1.2,⟨hk.1.1.2,⟨hk.1.2,⟨hk.2,⟨hk.1.1.1.1.1,⟨hk.1.1.1.1.2.1,⟨hk.1.1.1.1.2.2.1,⟨hk.1.1.1.1.2.2.2.1,hk.1.1.1.1.2.2.2.2⟩⟩⟩⟩⟩⟩⟩⟩)),(by (with_reducible repeat (first|apply zJ|apply zK|apply zL)); exact zC HO_271004.out (fun _ hk => ⟨hk.1.1.1.2,⟨hk.1.1.2,⟨hk.1.2,⟨hk.2,⟨hk.1.1.1.1.1,⟨hk.1.1.1.1.2.1,⟨hk.1.1.1.1.2.2.1,⟨hk.1.1.1.1.2.2.2.1,hk.1.1.1.1.2.2.2.2⟩⟩⟩⟩⟩⟩⟩⟩)),(by (with_reducible repeat (first|apply Kd.Q_alloc|apply Kd.Q_drewN|apply Kd.Q_drew)); exact Kd.Q_mono HO_285002.out (fun _ hk => ⟨hk.1.1.1.2,⟨hk.1.1.2,⟨hk.1.2,⟨hk.2,⟨hk.1.1.1.1.1,⟨hk.1.1.1.1.2.1,⟨hk.1.1.1.1.2.2.1,⟨hk.1.1.1.1.2.2.2.1,hk.1.1.1.1.2.2.2.2⟩⟩⟩⟩⟩⟩⟩⟩)),(by (with_reducible repeat (first|apply zJ|apply zK|apply zL)); exact zC HO_285004.out (fun _ hk => ⟨hk.1.1.1.2,⟨hk.1.1.2,⟨hk.1.2,⟨hk.2,⟨hk.1.1.1.1.1,⟨hk.1.1.1.1.2.1,⟨hk.1.1.1.1.2.2.1,⟨hk.1.1.1.1.2.2.2.1,hk.1.1.1.1.2.2.2.2⟩⟩⟩⟩⟩⟩⟩⟩)),(rrB19c BK234.out),(rrB19c BK235.out),(rrB19c BK260.out),(rrB19c BK270.out),(rrB19c BK284.out),(rrB19c BK326.out),GW326.out,GE326.out,NB234_326.out,NB326_234.out,NB235_326.out,NB326_235.out,NB260_326.out,NB326_260.out,NB270_326.out,NB326_270.out,NB284_326.out,NB326_284.out,(by repeat (first|(with_reducible first|exact HB.out|apply zO|apply zQ|apply zP|refine zN ?_ GE234.out|refine zN ?_ GE235.out|refine zN ?_ GE260.out|refine zN ?_ GE270.out|refine zN ?_ GE284.out|refine zN ?_ GE326.out)|exact HB.out))⟩)
               ·
                skip
                refine box_step ?hg (N := 14) ?hd (cs := #[.int .i64 0,.int .i64 0,.slice none 0 0,.int .i64 0,.slice none 0 0]) (t := 26) ?hr ?_; (case hd => rfl); (case hg => rfl); (case hr => first | (go_simp; done) | (go_simp; rfl))
                intro gb326 hg w160 hbox hb
                have n0_ := zA (Kd.Q_below (by (with_reducible repeat (first|apply Kd.Q_alloc|apply Kd.Q_drewN|apply Kd.Q_drew)); exact HO_261002.out) hb)
                have n1_ := zA (zD (rrA19c HO_261004.out) hb)
                have n2_ := zA (Kd.Q_below (by (with_reducible repeat (first|apply Kd.Q_alloc|apply Kd.Q_drewN|apply Kd.Q_drew)); exact HO_271002.out) hb)
                have n3_ := zA (zD (rrA19c HO_271004.out) hb)
                have n4_ := zA (Kd.Q_below (by (with_reducible repeat (first|apply Kd.Q_alloc|apply Kd.Q_drewN|apply Kd.Q_drew)); exact HO_285002.out) hb)
                have n5_ := zA (zD (rrA19c HO_285004.out) hb)
                have n6_ := zA (zD (rrA19c HO308.out) hb)
                have n7_ := zA (zD (rrA19c HO312.out) hb)
                have n8_ := zA (zV (g := gb234) (o := .cells #[.int .i64 a0_0,.int .i64 a0_1,.slice A0_2 l0_2.length c0_2,.int .i64 a0_3,.slice A0_4 l0_4.length c0_4] 24 (0,0)) (rrB19c BK234.out) hb)
                have n9_ := zA (zV (g := gb235) (o := .cells #[.int .i64 a1_0,.int .i64 a1_1,.string a1_2] 41 (0,0)) (rrB19c BK235.out) hb)
                have n10_ := zA (zV (g := gb260) (o := .cells #[.int .i64 t250,.int .i64 t251,.slice Ao43 t252.length co43,.int .i64 t255,.slice Ao46 t256.length co46] 26 (0,0)) (rrB19c BK260.out) hb)
                have n11_ := zA (zV (g := gb270) (o := .cells #[.int .i64 t261,.int .i64 t262,.slice Ao56 t297.length co56,.int .i64 t266,.slice Ao57 t298.length co57] 26 (0,0)) (rrB19c BK270.out) hb)
                have n12_ := zA (zV (g := gb284) (o := .cells #[.int .i64 t274,.int .i64 t275,.slice Ao66 t276.length co66,.int .i64 t279,.slice Ao69 t280.length co69] 26 (0,0)) (rrB19c BK284.out) hb)
                have n13_ := zA (zZ (by repeat (first|(with_reducible first|exact HB.out|apply zO|apply zQ|apply zP|refine zN ?_ GE234.out|refine zN ?_ GE235.out|refine zN ?_ GE260.out|refine zN ?_ GE270.out|refine zN ?_ GE284.out)|exact HB.out)) hb)
                have n14_ := zA (hbox)
                have n15_ := zA ((by rw [hg]; exact (below_size (by repeat (first|(with_reducible first|exact HB.out|apply zO|apply zQ|apply zP|refine zN ?_ GE234.out|refine zN ?_ GE235.out|refine zN ?_ GE260.out|refine zN ?_ GE270.out|refine zN ?_ GE284.out)|exact HB.out))) : w.heap.size ≤ gb326))
                have n16_ := zA ((by rw [hg]; exact (below_size (by repeat (first|(with_reducible first|exact HB.out|apply zO|apply zQ|apply zP|refine zN ?_ GE234.out|refine zN ?_ GE235.out|refine zN ?_ GE260.out|refine zN ?_ GE270.out|refine zN ?_ GE284.out)|exact HB.out))) : w.heap.size ≤ gb326))
                have n17_ := zA ((by rw [hg]; exact Nat.ne_of_lt (blk_lt (g := gb234) (o := .cells #[.int .i64 a0_0,.int .i64 a0_1,.slice A0_2 l0_2.length c0_2,.int .i64 a0_3,.slice A0_4 l0_4.length c0_4] 24 (0,0)) (rrB19c BK234.out)) : gb234 ≠ gb326))
                have n18_ := zA ((by rw [hg]; exact Nat.ne_of_gt (blk_lt (g := gb234) (o := .cells #[.int .i64 a0_0,.int .i64 a0_1,.slice A0_2 l0_2.length c0_2,.int .i64 a0_3,.slice A0_4 l0_4.length c0_4] 24 (0,0)) (rrB19c BK234.out)) : gb326 ≠ gb234))
                have n19_ := zA ((by rw [hg]; exact Nat.ne_of_lt (blk_lt (g := gb235) (o := .cells #[.int .i64 a1_0,.int .i64 a1_1,.string a1_2] 41 (0,0)) (rrB19c BK235.out)) : gb235 ≠ gb326))
                have n20_ := zA ((by rw [hg]; exact Nat.ne_of_gt (blk_lt (g := gb235) (o := .cells #[.int .i64 a1_0,.int .i64 a1_1,.string a1_2] 41 (0,0)) (rrB19c BK235.out)) : gb326 ≠ gb235))
                have n21_ := zA ((by rw [hg]; exact Nat.ne_of_lt (blk_lt (g := gb260) (o := .cells #[.int .i64 t250,.int .i64 t251,.slice Ao43 t252.length co43,.int .i64 t255,.slice Ao46 t256.length co46] 26 (0,0)) (rrB19c BK260.out)) : gb260 ≠ gb326))
                have n22_ := zA ((by rw [hg]; exact Nat.ne_of_gt (blk_lt (g := gb260) (o := .cells #[.int .i64 t250,.int .i64 t251,.slice Ao43 t252.length co43,.int .i64 t255,.slice Ao46 t256.length co46] 26 (0,0)) (rrB19c BK260.out)) : gb326 ≠ gb260))
                have n23_ := zA ((by rw [hg]; exact Nat.ne_of_lt (blk_lt (g := gb270) (o := .cells #[.int .i64 t261,.int .i64 t262,.slice Ao56 t297.length co56,.int .i64 t266,.slice Ao57 t298.length co57] 26 (0,0)) (rrB19c BK270.out)) : gb270 ≠ gb326))
                have n24_ := zA ((by rw [hg]; exact Nat.ne_of_gt (blk_lt (g := gb270) (o := .cells #[.int .i64 t261,.int .i64 t262,.slice Ao56 t297.length co56,.int .i64 t266,.slice Ao57 t298.length co57] 26 (0,0)) (rrB19c BK270.out)) : gb326 ≠ gb270))
                have n25_ := zA ((by rw [hg]; exact Nat.ne_of_lt (blk_lt (g := gb284) (o := .cells #[.int .i64 t274,.int .i64 t275,.slice Ao66 t276.length co66,.int .i64 t279,.slice Ao69 t280.length co69] 26 (0,0)) (rrB19c BK284.out)) : gb284 ≠ gb326))
                have n26_ := zA ((by rw [hg]; exact Nat.ne_of_gt (blk_lt (g := gb284) (o := .cells #[.int .i64 t274,.int .i64 t275,.slice Ao66 t276.length co66,.int .i64 t279,.slice Ao69 t280.length co69] 26 (0,0)) (rrB19c BK284.out)) : gb326 ≠ gb284))
                clear HO_261002 HO_261004 HO_271002 HO_271004 HO_285002 HO_285004 HO308 HO312 BK234 BK235 BK260 BK270 BK284 HB
                have HO_261002 := n0_
                have HO_261004 := n1_
                have HO_271002 := n2_
                have HO_271004 := n3_
                have HO_285002 := n4_
                have HO_285004 := n5_
                have HO308 := n6_
                have HO312 := n7_
                have BK234 := n8_
                have BK235 := n9_
                have BK260 := n10_
                have BK270 := n11_
                have BK284 := n12_
                have HB := n13_
                have BK326 := n14_
                have GW326 := n15_
                have GE326 := n16_
                have NB234_326 := n17_
                have NB326_234 := n18_
                have NB235_326 := n19_
                have NB326_235 := n20_
                have NB260_326 := n21_
                have NB326_260 := n22_
                have NB270_326 := n23_
                have NB326_270 := n24_
                have NB284_326 := n25_
                have NB326_284 := n26_
                clear n0_ n1_ n2_ n3_ n4_ n5_ n6_ n7_ n8_ n9_ n10_ n11_ n12_ n13_ n14_ n15_ n16_ n17_ n18_ n19_ n20_ n21_ n22_ n23_ n24_ n25_ n26_ hb hbox hg
                refine hK.out _ _ ⟨(zW BK234.out 0).trans rfl,(zW BK234.out 1).trans rfl,(zW BK234.out 2).trans rfl,(zW BK234.out 3).trans rfl,(zW BK234.out 4).trans rfl,(zW BK235.out 0).trans rfl,(zW BK235.out 1).trans rfl,(zW BK235.out 2).trans rfl⟩ (fun hHeld => ?_)
                clear hK K
                refine norm_ (a' := ?_) ?_ ?_
                rotate_left
                ·
                 show Act.put _ (some 14) _ = _
                 simp only [Act.put,List.setIfInBounds_toArray,List.set_cons_zero,List.set_cons_succ,i64_w,i32_w]; rfl
                refine one_ (i := 3) (N := some 88) #[true,true,true,true,false,false,false,false,true,false,false] rfl rfl (one_of HT_.out (by kernel_rfl)) (by decide) (fun K hK => ?_)
                refine goes_ Try.func25 (by kernel_rfl) rfl #[.agg #[.int .i64 a1_0,.int .i64 a1_1,.string a1_2]] (by rfl) rfl rfl (by (try simp only [List.map_toArray,List.map_cons,List.map_nil]); first | done|rfl|(simp only [List.length_drop,List.length_take]; rfl)) ?_
                with_reducible refine (laws_toParcel.calls a1_0 a1_1 a1_2 t313 t314 t315 _ A147.out).mono ?_
                rintro e w161 ⟨rfl,hb⟩
                refine ⟨_,rfl,?_⟩
                have n0_ := zA (Kd.Q_below (by (with_reducible repeat (first|apply Kd.Q_alloc|apply Kd.Q_drewN|apply Kd.Q_drew)); exact HO_261002.out) hb)
                have n1_ := zA (zD (rrA19c HO_261004.out) hb)
                have n2_ := zA (Kd.Q_below (by (with_reducible repeat (first|apply Kd.Q_alloc|apply Kd.Q_drewN|apply Kd.Q_drew)); exact HO_271002.out) hb)
                have n3_ := zA (zD (rrA19c HO_271004.out) hb)
                have n4_ := zA (Kd.Q_below (by (with_reducible repeat (first|apply Kd.Q_alloc|apply Kd.Q_drewN|apply Kd.Q_drew)); exact HO_285002.out) hb)
                have n5_ := zA (zD (rrA19c HO_285004.out) hb)
                have n6_ := zA (zD (rrA19c HO308.out) hb)
                have n7_ := zA (zD (rrA19c HO312.out) hb)
                have n8_ := zA (zV (g := gb234) (o := .cells #[.int .i64 a0_0,.int .i64 a0_1,.slice A0_2 l0_2.length c0_2,.int .i64 a0_3,.slice A0_4 l0_4.length c0_4] 24 (0,0)) (rrB19c BK234.out) hb)
                have n9_ := zA (zV (g := gb235) (o := .cells #[.int .i64 a1_0,.int .i64 a1_1,.string a1_2] 41 (0,0)) (rrB19c BK235.out) hb)
                have n10_ := zA (zV (g := gb260) (o := .cells #[.int .i64 t250,.int .i64 t251,.slice Ao43 t252.length co43,.int .i64 t255,.slice Ao46 t256.length co46] 26 (0,0)) (rrB19c BK260.out) hb)
                have n11_ := zA (zV (g := gb270) (o := .cells #[.int .i64 t261,.int .i64 t262,.slice Ao56 t297.length co56,.int .i64 t266,.slice Ao57 t298.length co57] 26 (0,0)) (rrB19c BK270.out) hb)
                have n12_ := zA (zV (g := gb284) (o := .cells #[.int .i64 t274,.int .i64 t275,.slice Ao66 t276.length co66,.int .i64 t279,.slice Ao69 t280.length co69] 26 (0,0)) (rrB19c BK284.out) hb)
                have n13_ := zA (zV (g := gb326) (o := .cells #[.int .i64 0,.int .i64 0,.slice none 0 0,.int .i64 0,.slice none 0 0] 26 (0,0)) (rrB19c BK326.out) hb)
                have n14_ := zA (zZ (by repeat (first|(with_reducible first|exact HB.out|apply zO|apply zQ|apply zP|refine zN ?_ GE234.out|refine zN ?_ GE235.out|refine zN ?_ GE260.out|refine zN ?_ GE270.out|refine zN ?_ GE284.out|refine zN ?_ GE326.out)|exact HB.out)) hb)
                clear HO_261002 HO_261004 HO_271002 HO_271004 HO_285002 HO_285004 HO308 HO312 BK234 BK235 BK260 BK270 BK284 BK326 HB
                have HO_261002 := n0_
                have HO_261004 := n1_
                have HO_271002 := n2_
                have HO_271004 := n3_
                have HO_285002 := n4_
                have HO_285004 := n5_
                have HO308 := n6_
                have HO312 := n7_
                have BK234 := n8_
                have BK235 := n9_
                have BK260 := n10_
                have BK270 := n11_
                have BK284 := n12_
                have BK326 := n13_
                have HB := n14_
                clear n0_ n1_ n2_ n3_ n4_ n5_ n6_ n7_ n8_ n9_ n10_ n11_ n12_ n13_ n14_
                (try clear hb)
                (try clear hb2)
                (try clear hk)
                (try clear hi)
                obtain ⟨Ao162,co162,eo162⟩ := Kd.R_slice HO308.out
                (first | subst eo162 | (injection eo162 with f1_ f2_ f3_; have f4_ := f1_.symm; have f5_ := f3_.symm; clear f1_ f2_ f3_; subst f4_; subst f5_))
                obtain ⟨Ao163,co163,eo163⟩ := Kd.R_slice HO312.out
                (first | subst eo163 | (injection eo163 with f1_ f2_ f3_; have f4_ := f1_.symm; have f5_ := f3_.symm; clear f1_ f2_ f3_; subst f4_; subst f5_))
                refine hK.out _ _ ⟨(zW BK234.out 0).trans rfl,(zW BK234.out 1).trans rfl,(zW BK234.out 2).trans rfl,(zW BK234.out 3).trans rfl,(zW BK234.out 4).trans rfl,(zW BK235.out 0).trans rfl,(zW BK235.out 1).trans rfl,(zW BK235.out 2).trans rfl⟩ (fun hHeld => ?_)
                clear hK K
                refine norm_ (a' := ?_) ?_ ?_
                rotate_left
                ·
                 show Act.put _ (some 88) _ = _
                 simp only [Act.put,List.setIfInBounds_toArray,List.set_cons_zero,List.set_cons_succ,i64_w,i32_w]; rfl
                refine one_ (i := 4) (N := some 89) #[true,true,true,true,true,false,false,false,true,false,false] rfl rfl (one_of HT_.out (by kernel_rfl)) (by decide) (fun K hK => ?_)
                refine goes_ Try.func20 (by kernel_rfl) rfl #[.agg #[.int .i64 t304,.int .i64 t305,.slice Ao162 t306.length co162,.int .i64 t309,.slice Ao163 t310.length co163],.agg #[.int .i64 t313,.int .i64 t314,.string t315]] (by rfl) rfl rfl (by (try simp only [List.map_toArray,List.map_cons,List.map_nil]); first | done|rfl|(simp only [List.length_drop,List.length_take]; rfl)) ?_
                with_reducible refine (impl_Receive.calls kj97 t304 t305 _ _ t306 t309 _ _ t310 t313 t314 t315 t316 t317 t318 t321 t322 t325 _ ?side1 ?side2 ?side3 ?side4 A148.out).mono ?_
                (case side1 => repeat (first|exact (zI HO308.out).2.2|(with_reducible refine Kd.C_alloc ?_ _)|(with_reducible refine Kd.C_drewN ?_ _)|(with_reducible refine Kd.C_drew ?_)))
                (case side2 => exact (zI HO308.out).2.1)
                (case side3 => repeat (first|exact (zI HO312.out).2.2|(with_reducible refine Kd.C_alloc ?_ _)|(with_reducible refine Kd.C_drewN ?_ _)|(with_reducible refine Kd.C_drew ?_)))
                (case side4 => exact (zI HO312.out).2.1)
                rintro e w164 ⟨v319,v323,rfl,ho0,ho1,hb⟩
                refine ⟨_,rfl,?_⟩
                have n0_ := zA (Kd.Q_mono (Kd.Q_told (Kd.Q_told (Kd.Q_old (by (with_reducible repeat (first|apply Kd.Q_alloc|apply Kd.Q_drewN|apply Kd.Q_drew)); exact HO_261002.out) hb) (Kd.Q_base ho0)) (zF ho1)) (fun _ h_ => h_.1))
                have n1_ := zA (zC (zE (zE (zM (rrA19c HO_261004.out) hb) (Kd.Q_base ho0)) (zF ho1)) (fun _ h_ => h_.1))
                have n2_ := zA (Kd.Q_mono (Kd.Q_told (Kd.Q_told (Kd.Q_old (by (with_reducible repeat (first|apply Kd.Q_alloc|apply Kd.Q_drewN|apply Kd.Q_drew)); exact HO_271002.out) hb) (Kd.Q_base ho0)) (zF ho1)) (fun _ h_ => h_.1))
                have n3_ := zA (zC (zE (zE (zM (rrA19c HO_271004.out) hb) (Kd.Q_base ho0)) (zF ho1)) (fun _ h_ => h_.1))
                have n4_ := zA (Kd.Q_mono (Kd.Q_told (Kd.Q_told (Kd.Q_old (by (with_reducible repeat (first|apply Kd.Q_alloc|apply Kd.Q_drewN|apply Kd.Q_drew)); exact HO_285002.out) hb) (Kd.Q_base ho0)) (zF ho1)) (fun _ h_ => h_.1))
                have n5_ := zA (zC (zE (zE (zM (rrA19c HO_285004.out) hb) (Kd.Q_base ho0)) (zF ho1)) (fun _ h_ => h_.1))
                have n6_ := zA (zC (zE (zE (zM (rrA19c HO308.out) hb) (Kd.Q_base ho0)) (zF ho1)) (fun _ h_ => h_.1))
                have n7_ := zA (zC (zE (zE (zM (rrA19c HO312.out) hb) (Kd.Q_base ho0)) (zF ho1)) (fun _ h_ => h_.1))
                have n8_ := zA (Kd.Q_lower (Kd.Q_new' (Kd.Q_new' (Kd.Q_new' (Kd.Q_new' (Kd.Q_new' (Kd.Q_new' (Kd.Q_new' (Kd.Q_new' ho0 (Kd.Q_lt (by (with_reducible repeat (first|apply Kd.Q_alloc|apply Kd.Q_drewN|apply Kd.Q_drew)); exact HO_261002.out))) (Kd.R_lt (rrA19c HO_261004.out))) (Kd.Q_lt (by (with_reducible repeat (first|apply Kd.Q_alloc|apply Kd.Q_drewN|apply Kd.Q_drew)); exact HO_271002.out))) (Kd.R_lt (rrA19c HO_271004.out))) (Kd.Q_lt (by (with_reducible repeat (first|apply Kd.Q_alloc|apply Kd.Q_drewN|apply Kd.Q_drew)); exact HO_285002.out))) (Kd.R_lt (rrA19c HO_285004.out))) (Kd.R_lt (rrA19c HO308.out))) (Kd.R_lt (rrA19c HO312.out))) (below_size (by repeat (first|(with_reducible first|exact HB.out|apply zO|apply zQ|apply zP|refine zN ?_ GE234.out|refine zN ?_ GE235.out|refine zN ?_ GE260.out|refine zN ?_ GE270.out|refine zN ?_ GE284.out|refine zN ?_ GE326.out)|exact HB.out))))
                have n9_ := zA (Kd.R_lower (zG (zG (zG (zG (zG (zG (zG (zG ho1 (Kd.Q_lt (by (with_reducible repeat (first|apply Kd.Q_alloc|apply Kd.Q_drewN|apply Kd.Q_drew)); exact HO_261002.out))) (Kd.R_lt (rrA19c HO_261004.out))) (Kd.Q_lt (by (with_reducible repeat (first|apply Kd.Q_alloc|apply Kd.Q_drewN|apply Kd.Q_drew)); exact HO_271002.out))) (Kd.R_lt (rrA19c HO_271004.out))) (Kd.Q_lt (by (with_reducible repeat (first|apply Kd.Q_alloc|apply Kd.Q_drewN|apply Kd.Q_drew)); exact HO_285002.out))) (Kd.R_lt (rrA19c HO_285004.out))) (Kd.R_lt (rrA19c HO308.out))) (Kd.R_lt (rrA19c HO312.out))) (below_size (by repeat (first|(with_reducible first|exact HB.out|apply zO|apply zQ|apply zP|refine zN ?_ GE234.out|refine zN ?_ GE235.out|refine zN ?_ GE260.out|refine zN ?_ GE270.out|refine zN ?_ GE284.out|refine zN ?_ GE326.out)|exact HB.out))))
                have n10_ := zA (zV (g := gb234) (o := .cells #[.int .i64 a0_0,.int .i64 a0_1,.slice A0_2 l0_2.length c0_2,.int .i64 a0_3,.slice A0_4 l0_4.length c0_4] 24 (0,0)) (rrB19c BK234.out) hb)
                have n11_ := zA (zV (g := gb235) (o := .cells #[.int .i64 a1_0,.int .i64 a1_1,.string a1_2] 41 (0,0)) (rrB19c BK235.out) hb)
                have n12_ := zA (zV (g := gb260) (o := .cells #[.int .i64 t250,.int .i64 t251,.slice Ao43 t252.length co43,.int .i64 t255,.slice Ao46 t256.length co46] 26 (0,0)) (rrB19c BK260.out) hb)
                have n13_ := zA (zV (g := gb270) (o := .cells #[.int .i64 t261,.int .i64 t262,.slice Ao56 t297.length co56,.int .i64 t266,.slice Ao57 t298.length co57] 26 (0,0)) (rrB19c BK270.out) hb)
                have n14_ := zA (zV (g := gb284) (o := .cells #[.int .i64 t274,.int .i64 t275,.slice Ao66 t276.length co66,.int .i64 t279,.slice Ao69 t280.length co69] 26 (0,0)) (rrB19c BK284.out) hb)
                have n15_ := zA (zV (g := gb326) (o := .cells #[.int .i64 0,.int .i64 0,.slice none 0 0,.int .i64 0,.slice none 0 0] 26 (0,0)) (rrB19c BK326.out) hb)
                have n16_ := zA (zZ (by repeat (first|(with_reducible first|exact HB.out|apply zO|apply zQ|apply zP|refine zN ?_ GE234.out|refine zN ?_ GE235.out|refine zN ?_ GE260.out|refine zN ?_ GE270.out|refine zN ?_ GE284.out|refine zN ?_ GE326.out)|exact HB.out)) hb)
                clear HO_261002 HO_261004 HO_271002 HO_271004 HO_285002 HO_285004 HO308 HO312 BK234 BK235 BK260 BK270 BK284 BK326 HB
                have HO_261002 := n0_
                have HO_261004 := n1_
                have HO_271002 := n2_
                have HO_271004 := n3_
                have HO_285002 := n4_
                have HO_285004 := n5_
                have HO308 := n6_
                have HO312 := n7_
                have HO320 := n8_
                have HO324 := n9_
                have BK234 := n10_
                have BK235 := n11_
                have BK260 := n12_
                have BK270 := n13_
                have BK284 := n14_
                have BK326 := n15_
                have HB := n16_
                clear n0_ n1_ n2_ n3_ n4_ n5_ n6_ n7_ n8_ n9_ n10_ n11_ n12_ n13_ n14_ n15_ n16_
                (try clear hb)
                (try clear hb2)
                (try clear hk)
                (try clear hi)
                (try clear ho0)
                (try clear ho1)
                refine hK.out _ _ ⟨(zW BK234.out 0).trans rfl,(zW BK234.out 1).trans rfl,(zW BK234.out 2).trans rfl,(zW BK234.out 3).trans rfl,(zW BK234.out 4).trans rfl,(zW BK235.out 0).trans rfl,(zW BK235.out 1).trans rfl,(zW BK235.out 2).trans rfl⟩ (fun hHeld => ?_)
                clear hK K
                refine norm_ (a' := ?_) ?_ ?_
                rotate_left
                ·
                 show Act.put _ (some 89) _ = _
                 simp only [Act.put,List.setIfInBounds_toArray,List.set_cons_zero,List.set_cons_succ,i64_w,i32_w]; rfl
                refine pure_ (i := 5) (N := some 84) (v := ?_) (a' := ?_) #[true,true,true,true,true,true,false,false,true,false,false] rfl rfl (any_of HT_.out (by kernel_rfl)) (fun _ _ _ h => h) (Or.inl ⟨by rfl,?_⟩) ?_ ?_; rotate_left
                · intro w'; go_simp; with_reducible rfl
                rotate_left
                · simp only [Act.put,List.setIfInBounds_toArray,List.set_cons_zero,List.set_cons_succ,i64_w,i32_w]; rfl
                refine pure_ (i := 6) (N := some 90) (v := ?_) (a' := ?_) #[true,true,true,true,true,true,true,false,true,false,false] rfl rfl (any_of HT_.out (by kernel_rfl)) (fun _ _ _ h => h) (Or.inl ⟨by rfl,?_⟩) ?_ ?_; rotate_left
                · intro w'; go_simp; with_reducible rfl
                rotate_left
                · simp only [Act.put,List.setIfInBounds_toArray,List.set_cons_zero,List.set_cons_succ,i64_w,i32_w]; rfl
                refine pure_ (i := 7) (N := some 91) (v := ?_) (a' := ?_) #[true,true,true,true,true,true,true,true,true,false,false] rfl rfl (any_of HT_.out (by kernel_rfl)) (fun _ _ _ h => h) (Or.inl ⟨by rfl,?_⟩) ?_ ?_; rotate_left
                · intro w'; go_simp; with_reducible rfl
                rotate_left
                · simp only [Act.put,List.setIfInBounds_toArray,List.set_cons_zero,List.set_cons_succ,i64_w,i32_w]; rfl
                exact norm_ (by simp only [putAll,Act.put,List.setIfInBounds_toArray,List.set_cons_zero,List.set_cons_succ]) (hCont (.slice Ao162 t306.length co162,.slice Ao163 t310.length co163,v319,v323,gb326) _ ⟨hHeld,(by (with_reducible repeat (first|apply zJ|apply zK|apply zL)); exact zC HO308.out (fun _ hk => ⟨hk.1.1.1.1.1.1.1.1,⟨hk.1.2,⟨hk.2,⟨hk.1.1.1.1.1.1.1.2,⟨hk.1.1.1.1.1.1.2,⟨hk.1.1.1.1.1.2,⟨hk.1.1.1.1.2,⟨hk.1.1.1.2,hk.1.1.2⟩⟩⟩⟩⟩⟩⟩⟩)),(by (with_reducible repeat (first|apply zJ|apply zK|apply zL)); exact zC HO312.out (fun _ hk => ⟨hk.1.1.1.1.1.1.1.1,⟨hk.1.2,⟨hk.2,⟨hk.1.1.1.1.1.1.1.2,⟨hk.1.1.1.1.1.1.2,⟨hk.1.1.1.1.1.2,⟨hk.1.1.1.1.2,⟨hk.1.1.1.2,hk.1.1.2⟩⟩⟩⟩⟩⟩⟩⟩)),(by (with_reducible repeat (first|apply Kd.Q_alloc|apply Kd.Q_drewN|apply Kd.Q_drew)); exact Kd.Q_mono HO320.out (fun _ hk => ⟨hk.1.2,⟨hk.2,⟨hk.1.1.1.1.1.1.1.1,⟨hk.1.1.1.1.1.1.1.2,⟨hk.1.1.1.1.1.1.2,⟨hk.1.1.1.1.1.2,⟨hk.1.1.1.1.2,⟨hk.1.1.1.2,hk.1.1.2⟩⟩⟩⟩⟩⟩⟩⟩)),(by (with_reducible repeat (first|apply zJ|apply zK|apply zL)); exact zC HO324.out (fun _ hk => ⟨hk.1.2,⟨hk.2,⟨hk.1.1.1.1.1.1.1.1,⟨hk.1.1.1.1.1.1.1.2,⟨hk.1.1.1.1.1.1.2,⟨hk.1.1.1.1.1.2,⟨hk.1.1.1.1.2,⟨hk.1.1.1.2,hk.1.1.2⟩⟩⟩⟩⟩⟩⟩⟩)),(by (with_reducible repeat (first|apply Kd.Q_alloc|apply Kd.Q_drewN|apply Kd.Q_drew)); exact Kd.Q_mono HO_261002.out (fun _ hk => ⟨hk.1.1.1.2,⟨hk.1.1.2,⟨hk.1.2,⟨hk.2,⟨hk.1.1.1.1.1,⟨hk.1.1.1.1.2.1,⟨hk.1.1.1.1.2.2.1,⟨hk.1.1.1.1.2.2.2.1,hk.1.1.1.1.2.2.2.2⟩⟩⟩⟩⟩⟩⟩⟩)),(by (with_reducible repeat (first|apply zJ|apply zK|apply zL)); exact zC HO_261004.out (fun _ hk => ⟨hk.1.1.1.2,⟨hk.1.1.2,⟨hk.1.2,⟨hk.2,⟨hk.1.1.1.1.1,⟨hk.1.1.1.1.2.1,⟨hk.1.1.1.1.2.2.1,⟨hk.1.1.1.1.2.2.2.1,hk.1.1.1.1.2.2.2.2⟩⟩⟩⟩⟩⟩⟩⟩)),(by (with_reducible repeat (first|apply Kd.Q_alloc|apply Kd.Q_drewN|apply Kd.Q_drew)); exact Kd.Q_mono HO_271002.out (fun _ hk => ⟨hk.1.1.1.2,⟨hk.1.1.2,⟨hk.1.2,⟨hk.2,⟨hk.1.1.1.1.1,⟨hk.1.1.1.1.2.1,⟨hk.1.1.1.1.2.2.1,⟨hk.1.1.1.1.2.2.2.1,hk.1.1.1.1.2.2.2.2⟩⟩⟩⟩⟩⟩⟩⟩)),(by (with_reducible repeat (first|apply zJ|apply zK|apply zL)); exact zC HO_271004.out (fun _ hk => ⟨hk.1.1.1.2,⟨hk.1.1.2,⟨hk.1.2,⟨hk.2,⟨hk.1.1.1.1.1,⟨hk.1.1.1.1.2.1,⟨hk.1.1.1.1.2.2.1,⟨hk.1.1.1.1.2.2.2.1,hk.1.1.1.1.2.2.2.2⟩⟩⟩⟩⟩⟩⟩⟩)),(by (with_reducible repeat (first|apply Kd.Q_alloc|apply Kd.Q_drewN|apply Kd.Q_drew)); exact Kd.Q_mono HO_285002.out (fun _ hk => ⟨hk.1.1.1.2,⟨hk.1.1.2,⟨hk.1.2,⟨hk.2,⟨hk.1.1.1.1.1,⟨hk.1.1.1.1.2.1,⟨hk.1.1.1.1.2.2.1,⟨hk.1.1.1.1.2.2.2.1,hk.1.1.1.1.2.2.2.2⟩⟩⟩⟩⟩⟩⟩⟩)),(by (with_reducible repeat (first|apply zJ|apply zK|apply zL)); exact zC HO_285004.out (fun _ hk => ⟨hk.1.1.1.2,⟨hk.1.1.2,⟨hk.1.2,⟨hk.2,⟨hk.1.1.1.1.1,⟨hk.1.1.1.1.2.1,⟨hk.1.1.1.1.2.2.1,⟨hk.1.1.1.1.2.2.2.1,hk.1.1.1.1.2.2.2.2⟩⟩⟩⟩⟩⟩⟩⟩)),(rrB19c BK234.out),(rrB19c BK235.out),(rrB19c BK260.out),(rrB19c BK270.out),(rrB19c BK284.out),(rrB19c BK326.out),GW326.out,GE326.out,NB234_326.out,NB326_234.out,NB235_326.out,NB326_235.out,NB260_326.out,NB326_260.out,NB270_326.out,NB326_270.out,NB284_326.out,NB326_284.out,(by repeat (first|(with_reducible first|exact HB.out|apply zO|apply zQ|apply zP|refine zN ?_ GE234.out|refine zN ?_ GE235.out|refine zN ?_ GE260.out|refine zN ?_ GE270.out|refine zN ?_ GE284.out|refine zN ?_ GE326.out)|exact HB.out))⟩)
              ·
               skip
               refine box_step ?hg (N := 14) ?hd (cs := #[.int .i64 0,.int .i64 0,.slice none 0 0,.int .i64 0,.slice none 0 0]) (t := 26) ?hr ?_; (case hd => rfl); (case hg => rfl); (case hr => first | (go_simp; done) | (go_simp; rfl))
               intro gb326 hg w159 hbox hb
               have n0_ := zA (Kd.Q_below (by (with_reducible repeat (first|apply Kd.Q_alloc|apply Kd.Q_drewN|apply Kd.Q_drew)); exact HO_261002.out) hb)
               have n1_ := zA (zD (rrA19c HO_261004.out) hb)
               have n2_ := zA (Kd.Q_below (by (with_reducible repeat (first|apply Kd.Q_alloc|apply Kd.Q_drewN|apply Kd.Q_drew)); exact HO_271002.out) hb)
               have n3_ := zA (zD (rrA19c HO_271004.out) hb)
               have n4_ := zA (Kd.Q_below (by (with_reducible repeat (first|apply Kd.Q_alloc|apply Kd.Q_drewN|apply Kd.Q_drew)); exact HO_285002.out) hb)
               have n5_ := zA (zD (rrA19c HO_285004.out) hb)
               have n6_ := zA (zV (g := gb234) (o := .cells #[.int .i64 a0_0,.int .i64 a0_1,.slice A0_2 l0_2.length c0_2,.int .i64 a0_3,.slice A0_4 l0_4.length c0_4] 24 (0,0)) (rrB19c BK234.out) hb)
               have n7_ := zA (zV (g := gb235) (o := .cells #[.int .i64 a1_0,.int .i64 a1_1,.string a1_2] 41 (0,0)) (rrB19c BK235.out) hb)
               have n8_ := zA (zV (g := gb260) (o := .cells #[.int .i64 t250,.int .i64 t251,.slice Ao43 t252.length co43,.int .i64 t255,.slice Ao46 t256.length co46] 26 (0,0)) (rrB19c BK260.out) hb)
               have n9_ := zA (zV (g := gb270) (o := .cells #[.int .i64 t261,.int .i64 t262,.slice Ao56 t297.length co56,.int .i64 t266,.slice Ao57 t298.length co57] 26 (0,0)) (rrB19c BK270.out) hb)
               have n10_ := zA (zV (g := gb284) (o := .cells #[.int .i64 t274,.int .i64 t275,.slice Ao66 t276.length co66,.int .i64 t279,.slice Ao69 t280.length co69] 26 (0,0)) (rrB19c BK284.out) hb)
               have n11_ := zA (zZ (by repeat (first|(with_reducible first|exact HB.out|apply zO|apply zQ|apply zP|refine zN ?_ GE234.out|refine zN ?_ GE235.out|refine zN ?_ GE260.out|refine zN ?_ GE270.out|refine zN ?_ GE284.out)|exact HB.out)) hb)
               have n12_ := zA (hbox)
               have n13_ := zA ((by rw [hg]; exact (below_size (by repeat (first|(with_reducible first|exact HB.out|apply zO|apply zQ|apply zP|refine zN ?_ GE234.out|refine zN ?_ GE235.out|refine zN ?_ GE260.out|refine zN ?_ GE270.out|refine zN ?_ GE284.out)|exact HB.out))) : w.heap.size ≤ gb326))
               have n14_ := zA ((by rw [hg]; exact (below_size (by repeat (first|(with_reducible first|exact HB.out|apply zO|apply zQ|apply zP|refine zN ?_ GE234.out|refine zN ?_ GE235.out|refine zN ?_ GE260.out|refine zN ?_ GE270.out|refine zN ?_ GE284.out)|exact HB.out))) : w.heap.size ≤ gb326))
               have n15_ := zA ((by rw [hg]; exact Nat.ne_of_lt (blk_lt (g := gb234) (o := .cells #[.int .i64 a0_0,.int .i64 a0_1,.slice A0_2 l0_2.length c0_2,.int .i64 a0_3,.slice A0_4 l0_4.length c0_4] 24 (0,0)) (rrB19c BK234.out)) : gb234 ≠ gb326))
               have n16_ := zA ((by rw [hg]; exact Nat.ne_of_gt (blk_lt (g := gb234) (o := .cells #[.int .i64 a0_0,.int .i64 a0_1,.slice A0_2 l0_2.length c0_2,.int .i64 a0_3,.slice A0_4 l0_4.length c0_4] 24 (0,0)) (rrB19c BK234.out)) : gb326 ≠ gb234))
               have n17_ := zA ((by rw [hg]; exact Nat.ne_of_lt (blk_lt (g := gb235) (o := .cells #[.int .i64 a1_0,.int .i64 a1_1,.string a1_2] 41 (0,0)) (rrB19c BK235.out)) : gb235 ≠ gb326))
               have n18_ := zA ((by rw [hg]; exact Nat.ne_of_gt (blk_lt (g := gb235) (o := .cells #[.int .i64 a1_0,.int .i64 a1_1,.string a1_2] 41 (0,0)) (rrB19c BK235.out)) : gb326 ≠ gb235))
               have n19_ := zA ((by rw [hg]; exact Nat.ne_of_lt (blk_lt (g := gb260) (o := .cells #[.int .i64 t250,.int .i64 t251,.slice Ao43 t252.length co43,.int .i64 t255,.slice Ao46 t256.length co46] 26 (0,0)) (rrB19c BK260.out)) : gb260 ≠ gb326))
               have n20_ := zA ((by rw [hg]; exact Nat.ne_of_gt (blk_lt (g := gb260) (o := .cells #[.int .i64 t250,.int .i64 t251,.slice Ao43 t252.length co43,.int .i64 t255,.slice Ao46 t256.length co46] 26 (0,0)) (rrB19c BK260.out)) : gb326 ≠ gb260))
               have n21_ := zA ((by rw [hg]; exact Nat.ne_of_lt (blk_lt (g := gb270) (o := .cells #[.int .i64 t261,.int .i64 t262,.slice Ao56 t297.length co56,.int .i64 t266,.slice Ao57 t298.length co57] 26 (0,0)) (rrB19c BK270.out)) : gb270 ≠ gb326))
               have n22_ := zA ((by rw [hg]; exact Nat.ne_of_gt (blk_lt (g := gb270) (o := .cells #[.int .i64 t261,.int .i64 t262,.slice Ao56 t297.length co56,.int .i64 t266,.slice Ao57 t298.length co57] 26 (0,0)) (rrB19c BK270.out)) : gb326 ≠ gb270))
               have n23_ := zA ((by rw [hg]; exact Nat.ne_of_lt (blk_lt (g := gb284) (o := .cells #[.int .i64 t274,.int .i64 t275,.slice Ao66 t276.length co66,.int .i64 t279,.slice Ao69 t280.length co69] 26 (0,0)) (rrB19c BK284.out)) : gb284 ≠ gb326))
               have n24_ := zA ((by rw [hg]; exact Nat.ne_of_gt (blk_lt (g := gb284) (o := .cells #[.int .i64 t274,.int .i64 t275,.slice Ao66 t276.length co66,.int .i64 t279,.slice Ao69 t280.length co69] 26 (0,0)) (rrB19c BK284.out)) : gb326 ≠ gb284))
               clear HO_261002 HO_261004 HO_271002 HO_271004 HO_285002 HO_285004 BK234 BK235 BK260 BK270 BK284 HB
               have HO_261002 := n0_
               have HO_261004 := n1_
               have HO_271002 := n2_
               have HO_271004 := n3_
               have HO_285002 := n4_
               have HO_285004 := n5_
               have BK234 := n6_
               have BK235 := n7_
               have BK260 := n8_
               have BK270 := n9_
               have BK284 := n10_
               have HB := n11_
               have BK326 := n12_
               have GW326 := n13_
               have GE326 := n14_
               have NB234_326 := n15_
               have NB326_234 := n16_
               have NB235_326 := n17_
               have NB326_235 := n18_
               have NB260_326 := n19_
               have NB326_260 := n20_
               have NB270_326 := n21_
               have NB326_270 := n22_
               have NB284_326 := n23_
               have NB326_284 := n24_
               clear n0_ n1_ n2_ n3_ n4_ n5_ n6_ n7_ n8_ n9_ n10_ n11_ n12_ n13_ n14_ n15_ n16_ n17_ n18_ n19_ n20_ n21_ n22_ n23_ n24_ hb hbox hg
               refine hK.out _ _ ⟨(zW BK234.out 0).trans rfl,(zW BK234.out 1).trans rfl,(zW BK234.out 2).trans rfl,(zW BK234.out 3).trans rfl,(zW BK234.out 4).trans rfl,(zW BK235.out 0).trans rfl,(zW BK235.out 1).trans rfl,(zW BK235.out 2).trans rfl⟩ (fun hHeld => ?_)
               clear hK K
               refine norm_ (a' := ?_) ?_ ?_
               rotate_left
               ·
                show Act.put _ (some 14) _ = _
                simp only [Act.put,List.setIfInBounds_toArray,List.set_cons_zero,List.set_cons_succ,i64_w,i32_w]; rfl
               refine one_ (i := 1) (N := some 86) #[true,true,true,false,false,false,false,false,true,false,false] rfl rfl (one_of HT_.out (by kernel_rfl)) (by decide) (fun K hK => ?_)
               refine goes_ Try.func13 (by kernel_rfl) rfl #[.agg #[.int .i64 a0_0,.int .i64 a0_1,.slice A0_2 l0_2.length c0_2,.int .i64 a0_3,.slice A0_4 l0_4.length c0_4]] (by rfl) rfl rfl (by (try simp only [List.map_toArray,List.map_cons,List.map_nil]); first | done|rfl|(simp only [List.length_drop,List.length_take]; rfl)) ?_
               with_reducible refine (laws_toEnd.calls kj97 a0_0 a0_1 _ _ l0_2 a0_3 _ _ l0_4 t304 t305 t306 t309 t310 _ ?side1 ?side2 ?side3 ?side4 A146.out).mono ?_
               (case side1 => repeat (first|exact (Kd.C_below HR0_2.out HB.out)|(with_reducible refine Kd.C_alloc ?_ _)|(with_reducible refine Kd.C_drewN ?_ _)|(with_reducible refine Kd.C_drew ?_)))
               (case side2 => exact HC0_2.out)
               (case side3 => repeat (first|exact (Kd.C_below HR0_4.out HB.out)|(with_reducible refine Kd.C_alloc ?_ _)|(with_reducible refine Kd.C_drewN ?_ _)|(with_reducible refine Kd.C_drew ?_)))
               (case side4 => exact HC0_4.out)
               rintro e w160 ⟨v307,v311,rfl,ho0,ho1,hb⟩
               refine ⟨_,rfl,?_⟩
               have n0_ := zA (Kd.Q_mono (Kd.Q_told (Kd.Q_told (Kd.Q_old (by (with_reducible repeat (first|apply Kd.Q_alloc|apply Kd.Q_drewN|apply Kd.Q_drew)); exact HO_261002.out) hb) (zF ho0)) (zF ho1)) (fun _ h_ => h_.1))
               have n1_ := zA (zC (zE (zE (zM (rrA19c HO_261004.out) hb) (zF ho0)) (zF ho1)) (fun _ h_ => h_.1))
               have n2_ := zA (Kd.Q_mono (Kd.Q_told (Kd.Q_told (Kd.Q_old (by (with_reducible repeat (first|apply Kd.Q_alloc|apply Kd.Q_drewN|apply Kd.Q_drew)); exact HO_271002.out) hb) (zF ho0)) (zF ho1)) (fun _ h_ => h_.1))
               have n3_ := zA (zC (zE (zE (zM (rrA19c HO_271004.out) hb) (zF ho0)) (zF ho1)) (fun _ h_ => h_.1))
               have n4_ := zA (Kd.Q_mono (Kd.Q_told (Kd.Q_told (Kd.Q_old (by (with_reducible repeat (first|apply Kd.Q_alloc|apply Kd.Q_drewN|apply Kd.Q_drew)); exact HO_285002.out) hb) (zF ho0)) (zF ho1)) (fun _ h_ => h_.1))
               have n5_ := zA (zC (zE (zE (zM (rrA19c HO_285004.out) hb) (zF ho0)) (zF ho1)) (fun _ h_ => h_.1))
               have n6_ := zA (Kd.R_lower (zG (zG (zG (zG (zG (zG ho0 (Kd.Q_lt (by (with_reducible repeat (first|apply Kd.Q_alloc|apply Kd.Q_drewN|apply Kd.Q_drew)); exact HO_261002.out))) (Kd.R_lt (rrA19c HO_261004.out))) (Kd.Q_lt (by (with_reducible repeat (first|apply Kd.Q_alloc|apply Kd.Q_drewN|apply Kd.Q_drew)); exact HO_271002.out))) (Kd.R_lt (rrA19c HO_271004.out))) (Kd.Q_lt (by (with_reducible repeat (first|apply Kd.Q_alloc|apply Kd.Q_drewN|apply Kd.Q_drew)); exact HO_285002.out))) (Kd.R_lt (rrA19c HO_285004.out))) (below_size (by repeat (first|(with_reducible first|exact HB.out|apply zO|apply zQ|apply zP|refine zN ?_ GE234.out|refine zN ?_ GE235.out|refine zN ?_ GE260.out|refine zN ?_ GE270.out|refine zN ?_ GE284.out|refine zN ?_ GE326.out)|exact HB.out))))
               have n7_ := zA (Kd.R_lower (zG (zG (zG (zG (zG (zG ho1 (Kd.Q_lt (by (with_reducible repeat (first|apply Kd.Q_alloc|apply Kd.Q_drewN|apply Kd.Q_drew)); exact HO_261002.out))) (Kd.R_lt (rrA19c HO_261004.out))) (Kd.Q_lt (by (with_reducible repeat (first|apply Kd.Q_alloc|apply Kd.Q_drewN|apply Kd.Q_drew)); exact HO_271002.out))) (Kd.R_lt (rrA19c HO_271004.out))) (Kd.Q_lt (by (with_reducible repeat (first|apply Kd.Q_alloc|apply Kd.Q_drewN|apply Kd.Q_drew)); exact HO_285002.out))) (Kd.R_lt (rrA19c HO_285004.out))) (below_size (by repeat (first|(with_reducible first|exact HB.out|apply zO|apply zQ|apply zP|refine zN ?_ GE234.out|refine zN ?_ GE235.out|refine zN ?_ GE260.out|refine zN ?_ GE270.out|refine zN ?_ GE284.out|refine zN ?_ GE326.out)|exact HB.out))))
               have n8_ := zA (zV (g := gb234) (o := .cells #[.int .i64 a0_0,.int .i64 a0_1,.slice A0_2 l0_2.length c0_2,.int .i64 a0_3,.slice A0_4 l0_4.length c0_4] 24 (0,0)) (rrB19c BK234.out) hb)
               have n9_ := zA (zV (g := gb235) (o := .cells #[.int .i64 a1_0,.int .i64 a1_1,.string a1_2] 41 (0,0)) (rrB19c BK235.out) hb)
               have n10_ := zA (zV (g := gb260) (o := .cells #[.int .i64 t250,.int .i64 t251,.slice Ao43 t252.length co43,.int .i64 t255,.slice Ao46 t256.length co46] 26 (0,0)) (rrB19c BK260.out) hb)
               have n11_ := zA (zV (g := gb270) (o := .cells #[.int .i64 t261,.int .i64 t262,.slice Ao56 t297.length co56,.int .i64 t266,.slice Ao57 t298.length co57] 26 (0,0)) (rrB19c BK270.out) hb)
               have n12_ := zA (zV (g := gb284) (o := .cells #[.int .i64 t274,.int .i64 t275,.slice Ao66 t276.length co66,.int .i64 t279,.slice Ao69 t280.length co69] 26 (0,0)) (rrB19c BK284.out) hb)
               have n13_ := zA (zV (g := gb326) (o := .cells #[.int .i64 0,.int .i64 0,.slice none 0 0,.int .i64 0,.slice none 0 0] 26 (0,0)) (rrB19c BK326.out) hb)
               have n14_ := zA (zZ (by repeat (first|(with_reducible first|exact HB.out|apply zO|apply zQ|apply zP|refine zN ?_ GE234.out|refine zN ?_ GE235.out|refine zN ?_ GE260.out|refine zN ?_ GE270.out|refine zN ?_ GE284.out|refine zN ?_ GE326.out)|exact HB.out)) hb)
               clear HO_261002 HO_261004 HO_271002 HO_271004 HO_285002 HO_285004 BK234 BK235 BK260 BK270 BK284 BK326 HB
               have HO_261002 := n0_
               have HO_261004 := n1_
               have HO_271002 := n2_
               have HO_271004 := n3_
               have HO_285002 := n4_
               have HO_285004 := n5_
               have HO308 := n6_
               have HO312 := n7_
               have BK234 := n8_
               have BK235 := n9_
               have BK260 := n10_
               have BK270 := n11_
               have BK284 := n12_
               have BK326 := n13_
               have HB := n14_
               clear n0_ n1_ n2_ n3_ n4_ n5_ n6_ n7_ n8_ n9_ n10_ n11_ n12_ n13_ n14_
               (try clear hb)
               (try clear hb2)
               (try clear hk)
               (try clear hi)
               (try clear ho0)
               (try clear ho1)
               refine hK.out _ _ ⟨(zW BK234.out 0).trans rfl,(zW BK234.out 1).trans rfl,(zW BK234.out 2).trans rfl,(zW BK234.out 3).trans rfl,(zW BK234.out 4).trans rfl,(zW BK235.out 0).trans rfl,(zW BK235.out 1).trans rfl,(zW BK235.out 2).trans rfl⟩ (fun hHeld => ?_)
               clear hK K
               refine norm_ (a' := ?_) ?_ ?_
               rotate_left
               ·
                show Act.put _ (some 86) _ = _
                simp only [Act.put,List.setIfInBounds_toArray,List.set_cons_zero,List.set_cons_succ,i64_w,i32_w]; rfl
               refine one_ (i := 3) (N := some 88) #[true,true,true,true,false,false,false,false,true,false,false] rfl rfl (one_of HT_.out (by kernel_rfl)) (by decide) (fun K hK => ?_)
               refine goes_ Try.func25 (by kernel_rfl) rfl #[.agg #[.int .i64 a1_0,.int .i64 a1_1,.string a1_2]] (by rfl) rfl rfl (by (try simp only [List.map_toArray,List.map_cons,List.map_nil]); first | done|rfl|(simp only [List.length_drop,List.length_take]; rfl)) ?_
               with_reducible refine (laws_toParcel.calls a1_0 a1_1 a1_2 t313 t314 t315 _ A147.out).mono ?_
               rintro e w161 ⟨rfl,hb⟩
               refine ⟨_,rfl,?_⟩
               have n0_ := zA (Kd.Q_below (by (with_reducible repeat (first|apply Kd.Q_alloc|apply Kd.Q_drewN|apply Kd.Q_drew)); exact HO_261002.out) hb)
               have n1_ := zA (zD (rrA19c HO_261004.out) hb)
               have n2_ := zA (Kd.Q_below (by (with_reducible repeat (first|apply Kd.Q_alloc|apply Kd.Q_drewN|apply Kd.Q_drew)); exact HO_271002.out) hb)
               have n3_ := zA (zD (rrA19c HO_271004.out) hb)
               have n4_ := zA (Kd.Q_below (by (with_reducible repeat (first|apply Kd.Q_alloc|apply Kd.Q_drewN|apply Kd.Q_drew)); exact HO_285002.out) hb)
               have n5_ := zA (zD (rrA19c HO_285004.out) hb)
               have n6_ := zA (zD (rrA19c HO308.out) hb)
               have n7_ := zA (zD (rrA19c HO312.out) hb)
               have n8_ := zA (zV (g := gb234) (o := .cells #[.int .i64 a0_0,.int .i64 a0_1,.slice A0_2 l0_2.length c0_2,.int .i64 a0_3,.slice A0_4 l0_4.length c0_4] 24 (0,0)) (rrB19c BK234.out) hb)
               have n9_ := zA (zV (g := gb235) (o := .cells #[.int .i64 a1_0,.int .i64 a1_1,.string a1_2] 41 (0,0)) (rrB19c BK235.out) hb)
               have n10_ := zA (zV (g := gb260) (o := .cells #[.int .i64 t250,.int .i64 t251,.slice Ao43 t252.length co43,.int .i64 t255,.slice Ao46 t256.length co46] 26 (0,0)) (rrB19c BK260.out) hb)
               have n11_ := zA (zV (g := gb270) (o := .cells #[.int .i64 t261,.int .i64 t262,.slice Ao56 t297.length co56,.int .i64 t266,.slice Ao57 t298.length co57] 26 (0,0)) (rrB19c BK270.out) hb)
               have n12_ := zA (zV (g := gb284) (o := .cells #[.int .i64 t274,.int .i64 t275,.slice Ao66 t276.length co66,.int .i64 t279,.slice Ao69 t280.length co69] 26 (0,0)) (rrB19c BK284.out) hb)
               have n13_ := zA (zV (g := gb326) (o := .cells #[.int .i64 0,.int .i64 0,.slice none 0 0,.int .i64 0,.slice none 0 0] 26 (0,0)) (rrB19c BK326.out) hb)
               have n14_ := zA (zZ (by repeat (first|(with_reducible first|exact HB.out|apply zO|apply zQ|apply zP|refine zN ?_ GE234.out|refine zN ?_ GE235.out|refine zN ?_ GE260.out|refine zN ?_ GE270.out|refine zN ?_ GE284.out|refine zN ?_ GE326.out)|exact HB.out)) hb)
               clear HO_261002 HO_261004 HO_271002 HO_271004 HO_285002 HO_285004 HO308 HO312 BK234 BK235 BK260 BK270 BK284 BK326 HB
               have HO_261002 := n0_
               have HO_261004 := n1_
               have HO_271002 := n2_
               have HO_271004 := n3_
               have HO_285002 := n4_
               have HO_285004 := n5_
               have HO308 := n6_
               have HO312 := n7_
               have BK234 := n8_
               have BK235 := n9_
               have BK260 := n10_
               have BK270 := n11_
               have BK284 := n12_
               have BK326 := n13_
               have HB := n14_
               clear n0_ n1_ n2_ n3_ n4_ n5_ n6_ n7_ n8_ n9_ n10_ n11_ n12_ n13_ n14_
               (try clear hb)
               (try clear hb2)
               (try clear hk)
               (try clear hi)
               obtain ⟨Ao162,co162,eo162⟩ := Kd.R_slice HO308.out
               (first | subst eo162 | (injection eo162 with f1_ f2_ f3_; have f4_ := f1_.symm; have f5_ := f3_.symm; clear f1_ f2_ f3_; subst f4_; subst f5_))
               obtain ⟨Ao163,co163,eo163⟩ := Kd.R_slice HO312.out
               (first | subst eo163 | (injection eo163 with f1_ f2_ f3_; have f4_ := f1_.symm; have f5_ := f3_.symm; clear f1_ f2_ f3_; subst f4_; subst f5_))
               refine hK.out _ _ ⟨(zW BK234.out 0).trans rfl,(zW BK234.out 1).trans rfl,(zW BK234.out 2).trans rfl,(zW BK234.out 3).trans rfl,(zW BK234.out 4).trans rfl,(zW BK235.out 0).trans rfl,(zW BK235.out 1).trans rfl,(zW BK235.out 2).trans rfl⟩ (fun hHeld => ?_)
               clear hK K
               refine norm_ (a' := ?_) ?_ ?_
               rotate_left
               ·
                show Act.put _ (some 88) _ = _
                simp only [Act.put,List.setIfInBounds_toArray,List.set_cons_zero,List.set_cons_succ,i64_w,i32_w]; rfl
               refine one_ (i := 4) (N := some 89) #[true,true,true,true,true,false,false,false,true,false,false] rfl rfl (one_of HT_.out (by kernel_rfl)) (by decide) (fun K hK => ?_)
               refine goes_ Try.func20 (by kernel_rfl) rfl #[.agg #[.int .i64 t304,.int .i64 t305,.slice Ao162 t306.length co162,.int .i64 t309,.slice Ao163 t310.length co163],.agg #[.int .i64 t313,.int .i64 t314,.string t315]] (by rfl) rfl rfl (by (try simp only [List.map_toArray,List.map_cons,List.map_nil]); first | done|rfl|(simp only [List.length_drop,List.length_take]; rfl)) ?_
               with_reducible refine (impl_Receive.calls kj97 t304 t305 _ _ t306 t309 _ _ t310 t313 t314 t315 t316 t317 t318 t321 t322 t325 _ ?side1 ?side2 ?side3 ?side4 A148.out).mono ?_
               (case side1 => repeat (first|exact (zI HO308.out).2.2|(with_reducible refine Kd.C_alloc ?_ _)|(with_reducible refine Kd.C_drewN ?_ _)|(with_reducible refine Kd.C_drew ?_)))
               (case side2 => exact (zI HO308.out).2.1)
               (case side3 => repeat (first|exact (zI HO312.out).2.2|(with_reducible refine Kd.C_alloc ?_ _)|(with_reducible refine Kd.C_drewN ?_ _)|(with_reducible refine Kd.C_drew ?_)))
               (case side4 => exact (zI HO312.out).2.1)
               rintro e w164 ⟨v319,v323,rfl,ho0,ho1,hb⟩
               refine ⟨_,rfl,?_⟩
               have n0_ := zA (Kd.Q_mono (Kd.Q_told (Kd.Q_told (Kd.Q_old (by (with_reducible repeat (first|apply Kd.Q_alloc|apply Kd.Q_drewN|apply Kd.Q_drew)); exact HO_261002.out) hb) (Kd.Q_base ho0)) (zF ho1)) (fun _ h_ => h_.1))
               have n1_ := zA (zC (zE (zE (zM (rrA19c HO_261004.out) hb) (Kd.Q_base ho0)) (zF ho1)) (fun _ h_ => h_.1))
               have n2_ := zA (Kd.Q_mono (Kd.Q_told (Kd.Q_told (Kd.Q_old (by (with_reducible repeat (first|apply Kd.Q_alloc|apply Kd.Q_drewN|apply Kd.Q_drew)); exact HO_271002.out) hb) (Kd.Q_base ho0)) (zF ho1)) (fun _ h_ => h_.1))
               have n3_ := zA (zC (zE (zE (zM (rrA19c HO_271004.out) hb) (Kd.Q_base ho0)) (zF ho1)) (fun _ h_ => h_.1))
               have n4_ := zA (Kd.Q_mono (Kd.Q_told (Kd.Q_told (Kd.Q_old (by (with_reducible repeat (first|apply Kd.Q_alloc|apply Kd.Q_drewN|apply Kd.Q_drew)); exact HO_285002.out) hb) (Kd.Q_base ho0)) (zF ho1)) (fun _ h_ => h_.1))
               have n5_ := zA (zC (zE (zE (zM (rrA19c HO_285004.out) hb) (Kd.Q_base ho0)) (zF ho1)) (fun _ h_ => h_.1))
               have n6_ := zA (zC (zE (zE (zM (rrA19c HO308.out) hb) (Kd.Q_base ho0)) (zF ho1)) (fun _ h_ => h_.1))
               have n7_ := zA (zC (zE (zE (zM (rrA19c HO312.out) hb) (Kd.Q_base ho0)) (zF ho1)) (fun _ h_ => h_.1))
               have n8_ := zA (Kd.Q_lower (Kd.Q_new' (Kd.Q_new' (Kd.Q_new' (Kd.Q_new' (Kd.Q_new' (Kd.Q_new' (Kd.Q_new' (Kd.Q_new' ho0 (Kd.Q_lt (by (with_reducible repeat (first|apply Kd.Q_alloc|apply Kd.Q_drewN|apply Kd.Q_drew)); exact HO_261002.out))) (Kd.R_lt (rrA19c HO_261004.out))) (Kd.Q_lt (by (with_reducible repeat (first|apply Kd.Q_alloc|apply Kd.Q_drewN|apply Kd.Q_drew)); exact HO_271002.out))) (Kd.R_lt (rrA19c HO_271004.out))) (Kd.Q_lt (by (with_reducible repeat (first|apply Kd.Q_alloc|apply Kd.Q_drewN|apply Kd.Q_drew)); exact HO_285002.out))) (Kd.R_lt (rrA19c HO_285004.out))) (Kd.R_lt (rrA19c HO308.out))) (Kd.R_lt (rrA19c HO312.out))) (below_size (by repeat (first|(with_reducible first|exact HB.out|apply zO|apply zQ|apply zP|refine zN ?_ GE234.out|refine zN ?_ GE235.out|refine zN ?_ GE260.out|refine zN ?_ GE270.out|refine zN ?_ GE284.out|refine zN ?_ GE326.out)|exact HB.out))))
               have n9_ := zA (Kd.R_lower (zG (zG (zG (zG (zG (zG (zG (zG ho1 (Kd.Q_lt (by (with_reducible repeat (first|apply Kd.Q_alloc|apply Kd.Q_drewN|apply Kd.Q_drew)); exact HO_261002.out))) (Kd.R_lt (rrA19c HO_261004.out))) (Kd.Q_lt (by (with_reducible repeat (first|apply Kd.Q_alloc|apply Kd.Q_drewN|apply Kd.Q_drew)); exact HO_271002.out))) (Kd.R_lt (rrA19c HO_271004.out))) (Kd.Q_lt (by (with_reducible repeat (first|apply Kd.Q_alloc|apply Kd.Q_drewN|apply Kd.Q_drew)); exact HO_285002.out))) (Kd.R_lt (rrA19c HO_285004.out))) (Kd.R_lt (rrA19c HO308.out))) (Kd.R_lt (rrA19c HO312.out))) (below_size (by repeat (first|(with_reducible first|exact HB.out|apply zO|apply zQ|apply zP|refine zN ?_ GE234.out|refine zN ?_ GE235.out|refine zN ?_ GE260.out|refine zN ?_ GE270.out|refine zN ?_ GE284.out|refine zN ?_ GE326.out)|exact HB.out))))
               have n10_ := zA (zV (g := gb234) (o := .cells #[.int .i64 a0_0,.int .i64 a0_1,.slice A0_2 l0_2.length c0_2,.int .i64 a0_3,.slice A0_4 l0_4.length c0_4] 24 (0,0)) (rrB19c BK234.out) hb)
               have n11_ := zA (zV (g := gb235) (o := .cells #[.int .i64 a1_0,.int .i64 a1_1,.string a1_2] 41 (0,0)) (rrB19c BK235.out) hb)
               have n12_ := zA (zV (g := gb260) (o := .cells #[.int .i64 t250,.int .i64 t251,.slice Ao43 t252.length co43,.int .i64 t255,.slice Ao46 t256.length co46] 26 (0,0)) (rrB19c BK260.out) hb)
               have n13_ := zA (zV (g := gb270) (o := .cells #[.int .i64 t261,.int .i64 t262,.slice Ao56 t297.length co56,.int .i64 t266,.slice Ao57 t298.length co57] 26 (0,0)) (rrB19c BK270.out) hb)
               have n14_ := zA (zV (g := gb284) (o := .cells #[.int .i64 t274,.int .i64 t275,.slice Ao66 t276.length co66,.int .i64 t279,.slice Ao69 t280.length co69] 26 (0,0)) (rrB19c BK284.out) hb)
               have n15_ := zA (zV (g := gb326) (o := .cells #[.int .i64 0,.int .i64 0,.slice none 0 0,.int .i64 0,.slice none 0 0] 26 (0,0)) (rrB19c BK326.out) hb)
               have n16_ := zA (zZ (by repeat (first|(with_reducible first|exact HB.out|apply zO|apply zQ|apply zP|refine zN ?_ GE234.out|refine zN ?_ GE235.out|refine zN ?_ GE260.out|refine zN ?_ GE270.out|refine zN ?_ GE284.out|refine zN ?_ GE326.out)|exact HB.out)) hb)
               clear HO_261002 HO_261004 HO_271002 HO_271004 HO_285002 HO_285004 HO308 HO312 BK234 BK235 BK260 BK270 BK284 BK326 HB
               have HO_261002 := n0_
               have HO_261004 := n1_
               have HO_271002 := n2_
               have HO_271004 := n3_
               have HO_285002 := n4_
               have HO_285004 := n5_
               have HO308 := n6_
               have HO312 := n7_
               have HO320 := n8_
               have HO324 := n9_
               have BK234 := n10_
               have BK235 := n11_
               have BK260 := n12_
               have BK270 := n13_
               have BK284 := n14_
               have BK326 := n15_
               have HB := n16_
               clear n0_ n1_ n2_ n3_ n4_ n5_ n6_ n7_ n8_ n9_ n10_ n11_ n12_ n13_ n14_ n15_ n16_
               (try clear hb)
               (try clear hb2)
               (try clear hk)
               (try clear hi)
               (try clear ho0)
               (try clear ho1)
               refine hK.out _ _ ⟨(zW BK234.out 0).trans rfl,(zW BK234.out 1).trans rfl,(zW BK234.out 2).trans rfl,(zW BK234.out 3).trans rfl,(zW BK234.out 4).trans rfl,(zW BK235.out 0).trans rfl,(zW BK235.out 1).trans rfl,(zW BK235.out 2).trans rfl⟩ (fun hHeld => ?_)
               clear hK K
               refine norm_ (a' := ?_) ?_ ?_
               rotate_left
               ·
                show Act.put _ (some 89) _ = _
                simp only [Act.put,List.setIfInBounds_toArray,List.set_cons_zero,List.set_cons_succ,i64_w,i32_w]; rfl
               refine pure_ (i := 5) (N := some 84) (v := ?_) (a' := ?_) #[true,true,true,true,true,true,false,false,true,false,false] rfl rfl (any_of HT_.out (by kernel_rfl)) (fun _ _ _ h => h) (Or.inl ⟨by rfl,?_⟩) ?_ ?_; rotate_left
               · intro w'; go_simp; with_reducible rfl
               rotate_left
               · simp only [Act.put,List.setIfInBounds_toArray,List.set_cons_zero,List.set_cons_succ,i64_w,i32_w]; rfl
               refine pure_ (i := 6) (N := some 90) (v := ?_) (a' := ?_) #[true,true,true,true,true,true,true,false,true,false,false] rfl rfl (any_of HT_.out (by kernel_rfl)) (fun _ _ _ h => h) (Or.inl ⟨by rfl,?_⟩) ?_ ?_; rotate_left
               · intro w'; go_simp; with_reducible rfl
               rotate_left
               · simp only [Act.put,List.setIfInBounds_toArray,List.set_cons_zero,List.set_cons_succ,i64_w,i32_w]; rfl
               refine pure_ (i := 7) (N := some 91) (v := ?_) (a' := ?_) #[true,true,true,true,true,true,true,true,true,false,false] rfl rfl (any_of HT_.out (by kernel_rfl)) (fun _ _ _ h => h) (Or.inl ⟨by rfl,?_⟩) ?_ ?_; rotate_left
               · intro w'; go_simp; with_reducible rfl
               rotate_left
               · simp only [Act.put,List.setIfInBounds_toArray,List.set_cons_zero,List.set_cons_succ,i64_w,i32_w]; rfl
               exact norm_ (by simp only [putAll,Act.put,List.setIfInBounds_toArray,List.set_cons_zero,List.set_cons_succ]) (hCont (.slice Ao162 t306.length co162,.slice Ao163 t310.length co163,v319,v323,gb326) _ ⟨hHeld,(by (with_reducible repeat (first|apply zJ|apply zK|apply zL)); exact zC HO308.out (fun _ hk => ⟨hk.1.1.1.1.1.1.1.1,⟨hk.1.2,⟨hk.2,⟨hk.1.1.1.1.1.1.1.2,⟨hk.1.1.1.1.1.1.2,⟨hk.1.1.1.1.1.2,⟨hk.1.1.1.1.2,⟨hk.1.1.1.2,hk.1.1.2⟩⟩⟩⟩⟩⟩⟩⟩)),(by (with_reducible repeat (first|apply zJ|apply zK|apply zL)); exact zC HO312.out (fun _ hk => ⟨hk.1.1.1.1.1.1.1.1,⟨hk.1.2,⟨hk.2,⟨hk.1.1.1.1.1.1.1.2,⟨hk.1.1.1.1.1.1.2,⟨hk.1.1.1.1.1.2,⟨hk.1.1.1.1.2,⟨hk.1.1.1.2,hk.1.1.2⟩⟩⟩⟩⟩⟩⟩⟩)),(by (with_reducible repeat (first|apply Kd.Q_alloc|apply Kd.Q_drewN|apply Kd.Q_drew)); exact Kd.Q_mono HO320.out (fun _ hk => ⟨hk.1.2,⟨hk.2,⟨hk.1.1.1.1.1.1.1.1,⟨hk.1.1.1.1.1.1.1.2,⟨hk.1.1.1.1.1.1.2,⟨hk.1.1.1.1.1.2,⟨hk.1.1.1.1.2,⟨hk.1.1.1.2,hk.1.1.2⟩⟩⟩⟩⟩⟩⟩⟩)),(by (with_reducible repeat (first|apply zJ|apply zK|apply zL)); exact zC HO324.out (fun _ hk => ⟨hk.1.2,⟨hk.2,⟨hk.1.1.1.1.1.1.1.1,⟨hk.1.1.1.1.1.1.1.2,⟨hk.1.1.1.1.1.1.2,⟨hk.1.1.1.1.1.2,⟨hk.1.1.1.1.2,⟨hk.1.1.1.2,hk.1.1.2⟩⟩⟩⟩⟩⟩⟩⟩)),(by (with_reducible repeat (first|apply Kd.Q_alloc|apply Kd.Q_drewN|apply Kd.Q_drew)); exact Kd.Q_mono HO_261002.out (fun _ hk => ⟨hk.1.1.1.2,⟨hk.1.1.2,⟨hk.1.2,⟨hk.2,⟨hk.1.1.1.1.1,⟨hk.1.1.1.1.2.1,⟨hk.1.1.1.1.2.2.1,⟨hk.1.1.1.1.2.2.2.1,hk.1.1.1.1.2.2.2.2⟩⟩⟩⟩⟩⟩⟩⟩)),(by (with_reducible repeat (first|apply zJ|apply zK|apply zL)); exact zC HO_261004.out (fun _ hk => ⟨hk.1.1.1.2,⟨hk.1.1.2,⟨hk.1.2,⟨hk.2,⟨hk.1.1.1.1.1,⟨hk.1.1.1.1.2.1,⟨hk.1.1.1.1.2.2.1,⟨hk.1.1.1.1.2.2.2.1,hk.1.1.1.1.2.2.2.2⟩⟩⟩⟩⟩⟩⟩⟩)),(by (with_reducible repeat (first|apply Kd.Q_alloc|apply Kd.Q_drewN|apply Kd.Q_drew)); exact Kd.Q_mono HO_271002.out (fun _ hk => ⟨hk.1.1.1.2,⟨hk.1.1.2,⟨hk.1.2,⟨hk.2,⟨hk.1.1.1.1.1,⟨hk.1.1.1.1.2.1,⟨hk.1.1.1.1.2.2.1,⟨hk.1.1.1.1.2.2.2.1,hk.1.1.1.1.2.2.2.2⟩⟩⟩⟩⟩⟩⟩⟩)),(by (with_reducible repeat (first|apply zJ|apply zK|apply zL)); exact zC HO_271004.out (fun _ hk => ⟨hk.1.1.1.2,⟨hk.1.1.2,⟨hk.1.2,⟨hk.2,⟨hk.1.1.1.1.1,⟨hk.1.1.1.1.2.1,⟨hk.1.1.1.1.2.2.1,⟨hk.1.1.1.1.2.2.2.1,hk.1.1.1.1.2.2.2.2⟩⟩⟩⟩⟩⟩⟩⟩)),(by (with_reducible repeat (first|apply Kd.Q_alloc|apply Kd.Q_drewN|apply Kd.Q_drew)); exact Kd.Q_mono HO_285002.out (fun _ hk => ⟨hk.1.1.1.2,⟨hk.1.1.2,⟨hk.1.2,⟨hk.2,⟨hk.1.1.1.1.1,⟨hk.1.1.1.1.2.1,⟨hk.1.1.1.1.2.2.1,⟨hk.1.1.1.1.2.2.2.1,hk.1.1.1.1.2.2.2.2⟩⟩⟩⟩⟩⟩⟩⟩)),(by (with_reducible repeat (first|apply zJ|apply zK|apply zL)); exact zC HO_285004.out (fun _ hk => ⟨hk.1.1.1.2,⟨hk.1.1.2,⟨hk.1.2,⟨hk.2,⟨hk.1.1.1.1.1,⟨hk.1.1.1.1.2.1,⟨hk.1.1.1.1.2.2.1,⟨hk.1.1.1.1.2.2.2.1,hk.1.1.1.1.2.2.2.2⟩⟩⟩⟩⟩⟩⟩⟩)),(rrB19c BK234.out),(rrB19c BK235.out),(rrB19c BK260.out),(rrB19c BK270.out),(rrB19c BK284.out),(rrB19c BK326.out),GW326.out,GE326.out,NB234_326.out,NB326_234.out,NB235_326.out,NB326_235.out,NB260_326.out,NB326_260.out,NB270_326.out,NB326_270.out,NB284_326.out,NB326_284.out,(by repeat (first|(with_reducible first|exact HB.out|apply zO|apply zQ|apply zP|refine zN ?_ GE234.out|refine zN ?_ GE235.out|refine zN ?_ GE260.out|refine zN ?_ GE270.out|refine zN ?_ GE284.out|refine zN ?_ GE326.out)|exact HB.out))⟩)
             rintro ⟨v307,v311,v319,v323,gb326⟩ w165 ⟨hS_,h0_,h1_,h2_,h3_,h4_,h5_,h6_,h7_,h8_,h9_,h10_,h11_,h12_,h13_,h14_,h15_,h16_,h17_,h18_,h19_,h20_,h21_,h22_,h23_,h24_,h25_,h26_,h27_,h28_⟩
             have n0_ : Aside0 (Kd.R Kd.string 9 w165 w.heap.size (fun k_ => some k_ ≠ (v311 : Value).ownBlock ∧ some k_ ≠ (v319 : Value).ownBlock ∧ some k_ ≠ (v323 : Value).ownBlock ∧ some k_ ≠ (.slice Ao43 t252.length co43 : Value).ownBlock ∧ some k_ ≠ (.slice Ao46 t256.length co46 : Value).ownBlock ∧ some k_ ≠ (.slice Ao56 t297.length co56 : Value).ownBlock ∧ some k_ ≠ (.slice Ao57 t298.length co57 : Value).ownBlock ∧ some k_ ≠ (.slice Ao66 t276.length co66 : Value).ownBlock ∧ some k_ ≠ (.slice Ao69 t280.length co69 : Value).ownBlock) v307 t306) := ⟨h0_⟩
             have n1_ : Aside0 (Kd.R Kd.string 9 w165 w.heap.size (fun k_ => some k_ ≠ (v307 : Value).ownBlock ∧ some k_ ≠ (v319 : Value).ownBlock ∧ some k_ ≠ (v323 : Value).ownBlock ∧ some k_ ≠ (.slice Ao43 t252.length co43 : Value).ownBlock ∧ some k_ ≠ (.slice Ao46 t256.length co46 : Value).ownBlock ∧ some k_ ≠ (.slice Ao56 t297.length co56 : Value).ownBlock ∧ some k_ ≠ (.slice Ao57 t298.length co57 : Value).ownBlock ∧ some k_ ≠ (.slice Ao66 t276.length co66 : Value).ownBlock ∧ some k_ ≠ (.slice Ao69 t280.length co69 : Value).ownBlock) v311 t310) := ⟨h1_⟩
             have n2_ : Aside0 (Kd.Q Kd.string 9 w165 w.heap.size (fun k_ => some k_ ≠ (v307 : Value).ownBlock ∧ some k_ ≠ (v311 : Value).ownBlock ∧ some k_ ≠ (v323 : Value).ownBlock ∧ some k_ ≠ (.slice Ao43 t252.length co43 : Value).ownBlock ∧ some k_ ≠ (.slice Ao46 t256.length co46 : Value).ownBlock ∧ some k_ ≠ (.slice Ao56 t297.length co56 : Value).ownBlock ∧ some k_ ≠ (.slice Ao57 t298.length co57 : Value).ownBlock ∧ some k_ ≠ (.slice Ao66 t276.length co66 : Value).ownBlock ∧ some k_ ≠ (.slice Ao69 t280.length co69 : Value).ownBlock) v319 t318) := ⟨h2_⟩
             have n3_ : Aside0 (Kd.R Kd.string 9 w165 w.heap.size (fun k_ => some k_ ≠ (v307 : Value).ownBlock ∧ some k_ ≠ (v311 : Value).ownBlock ∧ some k_ ≠ (v319 : Value).ownBlock ∧ some k_ ≠ (.slice Ao43 t252.length co43 : Value).ownBlock ∧ some k_ ≠ (.slice Ao46 t256.length co46 : Value).ownBlock ∧ some k_ ≠ (.slice Ao56 t297.length co56 : Value).ownBlock ∧ some k_ ≠ (.slice Ao57 t298.length co57 : Value).ownBlock ∧ some k_ ≠ (.slice Ao66 t276.length co66 : Value).ownBlock ∧ some k_ ≠ (.slice Ao69 t280.length co69 : Value).ownBlock) v323 t322) := ⟨h3_⟩
             have n4_ : Aside0 (Kd.Q Kd.string 9 w165 w.heap.size (fun k_ => some k_ ≠ (v307 : Value).ownBlock ∧ some k_ ≠ (v311 : Value).ownBlock ∧ some k_ ≠ (v319 : Value).ownBlock ∧ some k_ ≠ (v323 : Value).ownBlock ∧ some k_ ≠ (.slice Ao46 t256.length co46 : Value).ownBlock ∧ some k_ ≠ (.slice Ao56 t297.length co56 : Value).ownBlock ∧ some k_ ≠ (.slice Ao57 t298.length co57 : Value).ownBlock ∧ some k_ ≠ (.slice Ao66 t276.length co66 : Value).ownBlock ∧ some k_ ≠ (.slice Ao69 t280.length co69 : Value).ownBlock) (.slice Ao43 t252.length co43) t252) := ⟨h4_⟩
             have n5_ : Aside0 (Kd.R Kd.string 9 w165 w.heap.size (fun k_ => some k_ ≠ (v307 : Value).ownBlock ∧ some k_ ≠ (v311 : Value).ownBlock ∧ some k_ ≠ (v319 : Value).ownBlock ∧ some k_ ≠ (v323 : Value).ownBlock ∧ some k_ ≠ (.slice Ao43 t252.length co43 : Value).ownBlock ∧ some k_ ≠ (.slice Ao56 t297.length co56 : Value).ownBlock ∧ some k_ ≠ (.slice Ao57 t298.length co57 : Value).ownBlock ∧ some k_ ≠ (.slice Ao66 t276.length co66 : Value).ownBlock ∧ some k_ ≠ (.slice Ao69 t280.length co69 : Value).ownBlock) (.slice Ao46 t256.length co46) t256) := ⟨h5_⟩
             have n6_ : Aside0 (Kd.Q Kd.string 9 w165 w.heap.size (fun k_ => some k_ ≠ (v307 : Value).ownBlock ∧ some k_ ≠ (v311 : Value).ownBlock ∧ some k_ ≠ (v319 : Value).ownBlock ∧ some k_ ≠ (v323 : Value).ownBlock ∧ some k_ ≠ (.slice Ao43 t252.length co43 : Value).ownBlock ∧ some k_ ≠ (.slice Ao46 t256.length co46 : Value).ownBlock ∧ some k_ ≠ (.slice Ao57 t298.length co57 : Value).ownBlock ∧ some k_ ≠ (.slice Ao66 t276.length co66 : Value).ownBlock ∧ some k_ ≠ (.slice Ao69 t280.length co69 : Value).ownBlock) (.slice Ao56 t297.length co56) t297) := ⟨h6_⟩
             have n7_ : Aside0 (Kd.R Kd.string 9 w165 w.heap.size (fun k_ => some k_ ≠ (v307 : Value).ownBlock ∧ some k_ ≠ (v311 : Value).ownBlock ∧ some k_ ≠ (v319 : Value).ownBlock ∧ some k_ ≠ (v323 : Value).ownBlock ∧ some k_ ≠ (.slice Ao43 t252.length co43 : Value).ownBlock ∧ some k_ ≠ (.slice Ao46 t256.length co46 : Value).ownBlock ∧ some k_ ≠ (.slice Ao56 t297.length co56 : Value).ownBlock ∧ some k_ ≠ (.slice Ao66 t276.length co66 : Value).ownBlock ∧ some k_ ≠ (.slice Ao69 t280.length co69 : Value).ownBlock) (.slice Ao57 t298.length co57) t298) := ⟨h7_⟩
             have n8_ : Aside0 (Kd.Q Kd.string 9 w165 w.heap.size (fun k_ => some k_ ≠ (v307 : Value).ownBlock ∧ some k_ ≠ (v311 : Value).ownBlock ∧ some k_ ≠ (v319 : Value).ownBlock ∧ some k_ ≠ (v323 : Value).ownBlock ∧ some k_ ≠ (.slice Ao43 t252.length co43 : Value).ownBlock ∧ some k_ ≠ (.slice Ao46 t256.length co46 : Value).ownBlock ∧ some k_ ≠ (.slice Ao56 t297.length co56 : Value).ownBlock ∧ some k_ ≠ (.slice Ao57 t298.length co57 : Value).ownBlock ∧ some k_ ≠ (.slice Ao69 t280.length co69 : Value).ownBlock) (.slice Ao66 t276.length co66) t301) := ⟨h8_⟩
             have n9_ : Aside0 (Kd.R Kd.string 9 w165 w.heap.size (fun k_ => some k_ ≠ (v307 : Value).ownBlock ∧ some k_ ≠ (v311 : Value).ownBlock ∧ some k_ ≠ (v319 : Value).ownBlock ∧ some k_ ≠ (v323 : Value).ownBlock ∧ some k_ ≠ (.slice Ao43 t252.length co43 : Value).ownBlock ∧ some k_ ≠ (.slice Ao46 t256.length co46 : Value).ownBlock ∧ some k_ ≠ (.slice Ao56 t297.length co56 : Value).ownBlock ∧ some k_ ≠ (.slice Ao57 t298.length co57 : Value).ownBlock ∧ some k_ ≠ (.slice Ao66 t276.length co66 : Value).ownBlock) (.slice Ao69 t280.length co69) t302) := ⟨h9_⟩
             have n10_ : Aside0 (w165.heap[gb234]? = some (.cells #[.int .i64 a0_0,.int .i64 a0_1,.slice A0_2 l0_2.length c0_2,.int .i64 a0_3,.slice A0_4 l0_4.length c0_4] 24 (0,0))) := ⟨h10_⟩
             have n11_ : Aside0 (w165.heap[gb235]? = some (.cells #[.int .i64 a1_0,.int .i64 a1_1,.string a1_2] 41 (0,0))) := ⟨h11_⟩
             have n12_ : Aside0 (w165.heap[gb260]? = some (.cells #[.int .i64 t250,.int .i64 t251,.slice Ao43 t252.length co43,.int .i64 t255,.slice Ao46 t256.length co46] 26 (0,0))) := ⟨h12_⟩
             have n13_ : Aside0 (w165.heap[gb270]? = some (.cells #[.int .i64 t261,.int .i64 t262,.slice Ao56 t297.length co56,.int .i64 t266,.slice Ao57 t298.length co57] 26 (0,0))) := ⟨h13_⟩
             have n14_ : Aside0 (w165.heap[gb284]? = some (.cells #[.int .i64 t274,.int .i64 t275,.slice Ao66 t276.length co66,.int .i64 t279,.slice Ao69 t280.length co69] 26 (0,0))) := ⟨h14_⟩
             have n15_ : Aside0 (w165.heap[gb326]? = some (.cells #[.int .i64 0,.int .i64 0,.slice none 0 0,.int .i64 0,.slice none 0 0] 26 (0,0))) := ⟨h15_⟩
             have n16_ : Aside0 (w.heap.size ≤ gb326) := ⟨h16_⟩
             have n17_ : Aside0 (w.heap.size ≤ gb326) := ⟨h17_⟩
             have n18_ : Aside0 (gb234 ≠ gb326) := ⟨h18_⟩
             have n19_ : Aside0 (gb326 ≠ gb234) := ⟨h19_⟩
             have n20_ : Aside0 (gb235 ≠ gb326) := ⟨h20_⟩
             have n21_ : Aside0 (gb326 ≠ gb235) := ⟨h21_⟩
             have n22_ : Aside0 (gb260 ≠ gb326) := ⟨h22_⟩
             have n23_ : Aside0 (gb326 ≠ gb260) := ⟨h23_⟩
             have n24_ : Aside0 (gb270 ≠ gb326) := ⟨h24_⟩
             have n25_ : Aside0 (gb326 ≠ gb270) := ⟨h25_⟩
             have n26_ : Aside0 (gb284 ≠ gb326) := ⟨h26_⟩
             have n27_ : Aside0 (gb326 ≠ gb284) := ⟨h27_⟩
             have n28_ : Aside0 (Below w.heap.size w w165) := ⟨h28_⟩
             clear HO_261002 HO_261004 HO_271002 HO_271004 HO_285002 HO_285004 BK234 BK235 BK260 BK270 BK284 HB h0_ h1_ h2_ h3_ h4_ h5_ h6_ h7_ h8_ h9_ h10_ h11_ h12_ h13_ h14_ h15_ h16_ h17_ h18_ h19_ h20_ h21_ h22_ h23_ h24_ h25_ h26_ h27_ h28_
             have HO308 := n0_
             have HO312 := n1_
             have HO320 := n2_
             have HO324 := n3_
             have HO_261002 := n4_
             have HO_261004 := n5_
             have HO_271002 := n6_
             have HO_271004 := n7_
             have HO_285002 := n8_
             have HO_285004 := n9_
             have BK234 := n10_
             have BK235 := n11_
             have BK260 := n12_
             have BK270 := n13_
             have BK284 := n14_
             have BK326 := n15_
             have GW326 := n16_
             have GE326 := n17_
             have NB234_326 := n18_
             have NB326_234 := n19_
             have NB235_326 := n20_
             have NB326_235 := n21_
             have NB260_326 := n22_
             have NB326_260 := n23_
             have NB270_326 := n24_
             have NB326_270 := n25_
             have NB284_326 := n26_
             have NB326_284 := n27_
             have HB := n28_
             clear n0_ n1_ n2_ n3_ n4_ n5_ n6_ n7_ n8_ n9_ n10_ n11_ n12_ n13_ n14_ n15_ n16_ n17_ n18_ n19_ n20_ n21_ n22_ n23_ n24_ n25_ n26_ n27_ n28_
             have hHeld : w165.cell? ⟨gb234,0,none⟩ = some (.int .i64 a0_0) ∧ w165.cell? ⟨gb234,1,none⟩ = some (.int .i64 a0_1) ∧ w165.cell? ⟨gb234,2,none⟩ = some (.slice A0_2 l0_2.length c0_2) ∧ w165.cell? ⟨gb234,3,none⟩ = some (.int .i64 a0_3) ∧ w165.cell? ⟨gb234,4,none⟩ = some (.slice A0_4 l0_4.length c0_4) ∧ w165.cell? ⟨gb235,0,none⟩ = some (.int .i64 a1_0) ∧ w165.cell? ⟨gb235,1,none⟩ = some (.int .i64 a1_1) ∧ w165.cell? ⟨gb235,2,none⟩ = some (.string a1_2) := hS_
             obtain ⟨Ao168,co168,eo168,_⟩ := Kd.Q_slice HO320.out
             (first | subst eo168 | (injection eo168 with f1_ f2_ f3_; have f4_ := f1_.symm; have f5_ := f3_.symm; clear f1_ f2_ f3_; subst f4_; subst f5_))
             obtain ⟨Ao171,co171,eo171⟩ := Kd.R_slice HO324.out
             (first | subst eo171 | (injection eo171 with f1_ f2_ f3_; have f4_ := f1_.symm; have f5_ := f3_.symm; clear f1_ f2_ f3_; subst f4_; subst f5_))
             refine norm_ (a' := ?_) ?_ ?_
             rotate_left
             · simp only [putAll,Act.put,List.setIfInBounds_toArray,List.set_cons_zero,List.set_cons_succ]; rfl
             refine one_ (i := 9) (N := none) #[true,true,true,true,true,true,true,true,true,true,false] rfl rfl (one_of HT_.out (by kernel_rfl)) (by decide) (fun K hK => ?_)
             have hs166 : w165.cell? ⟨gb326,0,none⟩ = some (.int .i64 0) := (zW BK326.out 0).trans rfl
             have hfs166 := zU BK326.out 0
             have hns166_0 := NB234_326.out
             have hns166_1 := NB235_326.out
             have hns166_2 := NB260_326.out
             have hns166_3 := NB270_326.out
             have hns166_4 := NB284_326.out
             have hms166_0 := NB326_234.out
             have hms166_1 := NB326_235.out
             have hms166_2 := NB326_260.out
             have hms166_3 := NB326_270.out
             have hms166_4 := NB326_284.out
             have hs167 : w165.cell? ⟨gb326,1,none⟩ = some (.int .i64 0) := (zW BK326.out 1).trans rfl
             have hfs167 := zU BK326.out 1
             have hns167_0 := NB234_326.out
             have hns167_1 := NB235_326.out
             have hns167_2 := NB260_326.out
             have hns167_3 := NB270_326.out
             have hns167_4 := NB284_326.out
             have hms167_0 := NB326_234.out
             have hms167_1 := NB326_235.out
             have hms167_2 := NB326_260.out
             have hms167_3 := NB326_270.out
             have hms167_4 := NB326_284.out
             have hs169 : w165.cell? ⟨gb326,2,none⟩ = some (.slice none 0 0) := (zW BK326.out 2).trans rfl
             have hfs169 := zU BK326.out 2
             have hns169_0 := NB234_326.out
             have hns169_1 := NB235_326.out
             have hns169_2 := NB260_326.out
             have hns169_3 := NB270_326.out
             have hns169_4 := NB284_326.out
             have hms169_0 := NB326_234.out
             have hms169_1 := NB326_235.out
             have hms169_2 := NB326_260.out
             have hms169_3 := NB326_270.out
             have hms169_4 := NB326_284.out
             have hs170 : w165.cell? ⟨gb326,3,none⟩ = some (.int .i64 0) := (zW BK326.out 3).trans rfl
             have hfs170 := zU BK326.out 3
             have hns170_0 := NB234_326.out
             have hns170_1 := NB235_326.out
             have hns170_2 := NB260_326.out
             have hns170_3 := NB270_326.out
             have hns170_4 := NB284_326.out
             have hms170_0 := NB326_234.out
             have hms170_1 := NB326_235.out
             have hms170_2 := NB326_260.out
             have hms170_3 := NB326_270.out
             have hms170_4 := NB326_284.out
             have hs172 : w165.cell? ⟨gb326,4,none⟩ = some (.slice none 0 0) := (zW BK326.out 4).trans rfl
             have hfs172 := zU BK326.out 4
             have hns172_0 := NB234_326.out
             have hns172_1 := NB235_326.out
             have hns172_2 := NB260_326.out
             have hns172_3 := NB270_326.out
             have hns172_4 := NB284_326.out
             have hms172_0 := NB326_234.out
             have hms172_1 := NB326_235.out
             have hms172_2 := NB326_260.out
             have hms172_3 := NB326_270.out
             have hms172_4 := NB326_284.out
             refine skip_ (w1 := ?_) (by rfl) rfl ?_ ?_
             rotate_left
             · go_simp; rfl
             refine hK.out _ _ ⟨((cell_far (p := ⟨gb326,_,none⟩) NB234_326.out _).trans (((cell_far (p := ⟨gb326,_,none⟩) NB234_326.out _).trans (((cell_far (p := ⟨gb326,_,none⟩) NB234_326.out _).trans (((cell_far (p := ⟨gb326,_,none⟩) NB234_326.out _).trans (((cell_far (p := ⟨gb326,_,none⟩) NB234_326.out _).trans (hHeld.1)))))))))),((cell_far (p := ⟨gb326,_,none⟩) NB234_326.out _).trans (((cell_far (p := ⟨gb326,_,none⟩) NB234_326.out _).trans (((cell_far (p := ⟨gb326,_,none⟩) NB234_326.out _).trans (((cell_far (p := ⟨gb326,_,none⟩) NB234_326.out _).trans (((cell_far (p := ⟨gb326,_,none⟩) NB234_326.out _).trans (hHeld.2.1)))))))))),((cell_far (p := ⟨gb326,_,none⟩) NB234_326.out _).trans (((cell_far (p := ⟨gb326,_,none⟩) NB234_326.out _).trans (((cell_far (p := ⟨gb326,_,none⟩) NB234_326.out _).trans (((cell_far (p := ⟨gb326,_,none⟩) NB234_326.out _).trans (((cell_far (p := ⟨gb326,_,none⟩) NB234_326.out _).trans (hHeld.2.2.1)))))))))),((cell_far (p := ⟨gb326,_,none⟩) NB234_326.out _).trans (((cell_far (p := ⟨gb326,_,none⟩) NB234_326.out _).trans (((cell_far (p := ⟨gb326,_,none⟩) NB234_326.out _).trans (((cell_far (p := ⟨gb326,_,none⟩) NB234_326.out _).trans (((cell_far (p := ⟨gb326,_,none⟩) NB234_326.out _).trans (hHeld.2.2.2.1)))))))))),((cell_far (p := ⟨gb326,_,none⟩) NB234_326.out _).trans (((cell_far (p := ⟨gb326,_,none⟩) NB234_326.out _).trans (((cell_far (p := ⟨gb326,_,none⟩) NB234_326.out _).trans (((cell_far (p := ⟨gb326,_,none⟩) NB234_326.out _).trans (((cell_far (p := ⟨gb326,_,none⟩) NB234_326.out _).trans (hHeld.2.2.2.2.1)))))))))),((cell_far (p := ⟨gb326,_,none⟩) NB235_326.out _).trans (((cell_far (p := ⟨gb326,_,none⟩) NB235_326.out _).trans (((cell_far (p := ⟨gb326,_,none⟩) NB235_326.out _).trans (((cell_far (p := ⟨gb326,_,none⟩) NB235_326.out _).trans (((cell_far (p := ⟨gb326,_,none⟩) NB235_326.out _).trans (hHeld.2.2.2.2.2.1)))))))))),((cell_far (p := ⟨gb326,_,none⟩) NB235_326.out _).trans (((cell_far (p := ⟨gb326,_,none⟩) NB235_326.out _).trans (((cell_far (p := ⟨gb326,_,none⟩) NB235_326.out _).trans (((cell_far (p := ⟨gb326,_,none⟩) NB235_326.out _).trans (((cell_far (p := ⟨gb326,_,none⟩) NB235_326.out _).trans (hHeld.2.2.2.2.2.2.1)))))))))),((cell_far (p := ⟨gb326,_,none⟩) NB235_326.out _).trans (((cell_far (p := ⟨gb326,_,none⟩) NB235_326.out _).trans (((cell_far (p := ⟨gb326,_,none⟩) NB235_326.out _).trans (((cell_far (p := ⟨gb326,_,none⟩) NB235_326.out _).trans (((cell_far (p := ⟨gb326,_,none⟩) NB235_326.out _).trans (hHeld.2.2.2.2.2.2.2))))))))))⟩ (fun hHeld => ?_)
             clear hK K
             refine pure_ (i := 10) (N := some 15) (v := ?_) (a' := ?_) #[true,true,true,true,true,true,true,true,true,true,true] rfl rfl (any_of HT_.out (by kernel_rfl)) (fun _ _ _ h => h) (Or.inl ⟨by rfl,?_⟩) ?_ ?_; rotate_left
             · intro w'; go_simp; with_reducible rfl
             rotate_left
             · simp only [Act.put,List.setIfInBounds_toArray,List.set_cons_zero,List.set_cons_succ,i64_w,i32_w]; rfl
             refine done_ (done_of HT_.out (by kernel_rfl)) ?_
             go_upto_region 28 with (fail)
             go_cut [100] (fun v100 wc => ∃ (kq : Nat) (x100_148 : Bool),v100 = .bool x100_148 ∧ Aside0 (laws_FnExactReceive.j2 kq t300 x100_148 t274 t275 t301 t279 t302 = some r) ∧ Aside0 (kq ≤ kj97) ∧ Aside0 (Kd.Q Kd.string 9 wc w.heap.size (fun k_ => some k_ ≠ ((.slice Ao46 t256.length co46) : Value).ownBlock ∧ some k_ ≠ ((.slice Ao56 t297.length co56) : Value).ownBlock ∧ some k_ ≠ ((.slice Ao57 t298.length co57) : Value).ownBlock ∧ some k_ ≠ ((.slice Ao66 t276.length co66) : Value).ownBlock ∧ some k_ ≠ ((.slice Ao69 t280.length co69) : Value).ownBlock ∧ some k_ ≠ ((.slice Ao168 t318.length co168) : Value).ownBlock ∧ some k_ ≠ ((.slice Ao171 t322.length co171) : Value).ownBlock) (.slice Ao43 t252.length co43) t252) ∧ Aside0 (Kd.R Kd.string 9 wc w.heap.size (fun k_ => some k_ ≠ ((.slice Ao43 t252.length co43) : Value).ownBlock ∧ some k_ ≠ ((.slice Ao56 t297.length co56) : Value).ownBlock ∧ some k_ ≠ ((.slice Ao57 t298.length co57) : Value).ownBlock ∧ some k_ ≠ ((.slice Ao66 t276.length co66) : Value).ownBlock ∧ some k_ ≠ ((.slice Ao69 t280.length co69) : Value).ownBlock ∧ some k_ ≠ ((.slice Ao168 t318.length co168) : Value).ownBlock ∧ some k_ ≠ ((.slice Ao171 t322.length co171) : Value).ownBlock) (.slice Ao46 t256.length co46) t256) ∧ Aside0 (Kd.Q Kd.string 9 wc w.heap.size (fun k_ => some k_ ≠ ((.slice Ao43 t252.length co43) : Value).ownBlock ∧ some k_ ≠ ((.slice Ao46 t256.length co46) : Value).ownBlock ∧ some k_ ≠ ((.slice Ao57 t298.length co57) : Value).ownBlock ∧ some k_ ≠ ((.slice Ao66 t276.length co66) : Value).ownBlock ∧ some k_ ≠ ((.slice Ao69 t280.length co69) : Value).ownBlock ∧ some k_ ≠ ((.slice Ao168 t318.length co168) : Value).ownBlock ∧ some k_ ≠ ((.slice Ao171 t322.length co171) : Value).ownBlock) (.slice Ao56 t297.length co56) t297) ∧ Aside0 (Kd.R Kd.string 9 wc w.heap.size (fun k_ => some k_ ≠ ((.slice Ao43 t252.length co43) : Value).ownBlock ∧ some k_ ≠ ((.slice Ao46 t256.length co46) : Value).ownBlock ∧ some k_ ≠ ((.slice Ao56 t297.length co56) : Value).ownBlock ∧ some k_ ≠ ((.slice Ao66 t276.length co66) : Value).ownBlock ∧ some k_ ≠ ((.slice Ao69 t280.length co69) : Value).ownBlock ∧ some k_ ≠ ((.slice Ao168 t318.length co168) : Value).ownBlock ∧ some k_ ≠ ((.slice Ao171 t322.length co171) : Value).ownBlock) (.slice Ao57 t298.length co57) t298) ∧ Aside0 (Kd.Q Kd.string 9 wc w.heap.size (fun k_ => some k_ ≠ ((.slice Ao43 t252.length co43) : Value).ownBlock ∧ some k_ ≠ ((.slice Ao46 t256.length co46) : Value).ownBlock ∧ some k_ ≠ ((.slice Ao56 t297.length co56) : Value).ownBlock ∧ some k_ ≠ ((.slice Ao57 t298.length co57) : Value).ownBlock ∧ some k_ ≠ ((.slice Ao69 t280.length co69) : Value).ownBlock ∧ some k_ ≠ ((.slice Ao168 t318.length co168) : Value).ownBlock ∧ some k_ ≠ ((.slice Ao171 t322.length co171) : Value).ownBlock) (.slice Ao66 t276.length co66) t301) ∧ Aside0 (Kd.R Kd.string 9 wc w.heap.size (fun k_ => some k_ ≠ ((.slice Ao43 t252.length co43) : Value).ownBlock ∧ some k_ ≠ ((.slice Ao46 t256.length co46) : Value).ownBlock ∧ some k_ ≠ ((.slice Ao56 t297.length co56) : Value).ownBlock ∧ some k_ ≠ ((.slice Ao57 t298.length co57) : Value).ownBlock ∧ some k_ ≠ ((.slice Ao66 t276.length co66) : Value).ownBlock ∧ some k_ ≠ ((.slice Ao168 t318.length co168) : Value).ownBlock ∧ some k_ ≠ ((.slice Ao171 t322.length co171) : Value).ownBlock) (.slice Ao69 t280.length co69) t302) ∧ Aside0 (Kd.Q Kd.string 9 wc w.heap.size (fun k_ => some k_ ≠ ((.slice Ao43 t252.length co43) : Value).ownBlock ∧ some k_ ≠ ((.slice Ao46 t256.length co46) : Value).ownBlock ∧ some k_ ≠ ((.slice Ao56 t297.length co56) : Value).ownBlock ∧ some k_ ≠ ((.slice Ao57 t298.length co57) : Value).ownBlock ∧ some k_ ≠ ((.slice Ao66 t276.length co66) : Value).ownBlock ∧ some k_ ≠ ((.slice Ao69 t280.length co69) : Value).ownBlock ∧ some k_ ≠ ((.slice Ao171 t322.length co171) : Value).ownBlock) (.slice Ao168 t318.length co168) t318) ∧ Aside0 (Kd.R Kd.string 9 wc w.heap.size (fun k_ => some k_ ≠ ((.slice Ao43 t252.length co43) : Value).ownBlock ∧ some k_ ≠ ((.slice Ao46 t256.length co46) : Value).ownBlock ∧ some k_ ≠ ((.slice Ao56 t297.length co56) : Value).ownBlock ∧ some k_ ≠ ((.slice Ao57 t298.length co57) : Value).ownBlock ∧ some k_ ≠ ((.slice Ao66 t276.length co66) : Value).ownBlock ∧ some k_ ≠ ((.slice Ao69 t280.length co69) : Value).ownBlock ∧ some k_ ≠ ((.slice Ao168 t318.length co168) : Value).ownBlock) (.slice Ao171 t322.length co171) t322) ∧ Aside0 (wc.heap[gb234]? = some (.cells #[.int .i64 a0_0,.int .i64 a0_1,(.slice A0_2 l0_2.length c0_2),.int .i64 a0_3,(.slice A0_4 l0_4.length c0_4)] 24 (0,0))) ∧ Aside0 (wc.heap[gb235]? = some (.cells #[.int .i64 a1_0,.int .i64 a1_1,.string a1_2] 41 (0,0))) ∧ Aside0 (wc.heap[gb260]? = some (.cells #[.int .i64 t250,.int .i64 t251,(.slice Ao43 t252.length co43),.int .i64 t255,(.slice Ao46 t256.length co46)] 26 (0,0))) ∧ Aside0 (wc.heap[gb270]? = some (.cells #[.int .i64 t261,.int .i64 t262,(.slice Ao56 t297.length co56),.int .i64 t266,(.slice Ao57 t298.length co57)] 26 (0,0))) ∧ Aside0 (wc.heap[gb284]? = some (.cells #[.int .i64 t274,.int .i64 t275,(.slice Ao66 t276.length co66),.int .i64 t279,(.slice Ao69 t280.length co69)] 26 (0,0))) ∧ Aside0 (wc.heap[gb326]? = some (.cells #[.int .i64 t316,.int .i64 t317,(.slice Ao168 t318.length co168),.int .i64 t321,(.slice Ao171 t322.length co171)] 26 (0,0))) ∧ Aside0 (Below w.heap.size w wc))
             case first =>
              have H := HC149.out
              clear HC149
              replace H := Option.bind_eq_some_iff.mp H
              obtain ⟨t327,A1730,H⟩ := H
              replace H : (if t327 = true then (laws_FnExactReceive.j2 kj97 t300 (t325 != t259) t274 t275 t301 t279 t302) else (laws_FnExactReceive.j2 kj97 t300 true t274 t275 t301 t279 t302)) = some r := H
              have A173 := zA A1730
              clear A1730
              by_cases c174 : t327 = true
              ·
               subst c174
               have H1 : (laws_FnExactReceive.j2 kj97 t300 (t325 != t259) t274 t275 t301 t279 t302) = some r := by rw [if_pos rfl] at H; exact H
               clear H; have H := H1; clear H1
               have H' := zA H
               clear H
               have hnb175 := NB326_234.out
               have hnc175 := NB234_326.out
               have hnb176 := NB326_235.out
               have hnc176 := NB235_326.out
               have hnb177 := NB326_260.out
               have hnc177 := NB260_326.out
               have hnb178 := NB326_270.out
               have hnc178 := NB270_326.out
               have hnb179 := NB326_284.out
               have hnc179 := NB284_326.out
               have hcz180_0 : w165.cell? ⟨gb326,0,none⟩ = some (.int .i64 0) := (zW BK326.out 0).trans rfl
               have hcz180_1 : w165.cell? ⟨gb326,1,none⟩ = some (.int .i64 0) := (zW BK326.out 1).trans rfl
               have hcz180_2 : w165.cell? ⟨gb326,2,none⟩ = some (.slice none 0 0) := (zW BK326.out 2).trans rfl
               have hcz180_3 : w165.cell? ⟨gb326,3,none⟩ = some (.int .i64 0) := (zW BK326.out 3).trans rfl
               have hcz180_4 : w165.cell? ⟨gb326,4,none⟩ = some (.slice none 0 0) := (zW BK326.out 4).trans rfl
               have hfz180_0 := zU BK326.out 0
               have hfz180_1 := zU BK326.out 1
               have hfz180_2 := zU BK326.out 2
               have hfz180_3 := zU BK326.out 3
               have hfz180_4 := zU BK326.out 4
               have hnb181 := NB260_234.out
               have hnc181 := NB234_260.out
               have hnb182 := NB260_235.out
               have hnc182 := NB235_260.out
               have hnb183 := NB260_270.out
               have hnc183 := NB270_260.out
               have hnb184 := NB260_284.out
               have hnc184 := NB284_260.out
               have hcz185_0 : w165.cell? ⟨gb260,0,none⟩ = some (.int .i64 t250) := (zW BK260.out 0).trans rfl
               have hcz185_1 : w165.cell? ⟨gb260,1,none⟩ = some (.int .i64 t251) := (zW BK260.out 1).trans rfl
               have hcz185_2 : w165.cell? ⟨gb260,2,none⟩ = some (.slice Ao43 t252.length co43) := (zW BK260.out 2).trans rfl
               have hcz185_3 : w165.cell? ⟨gb260,3,none⟩ = some (.int .i64 t255) := (zW BK260.out 3).trans rfl
               have hcz185_4 : w165.cell? ⟨gb260,4,none⟩ = some (.slice Ao46 t256.length co46) := (zW BK260.out 4).trans rfl
               have hfz185_0 := zU BK260.out 0
               have hfz185_1 := zU BK260.out 1
               have hfz185_2 := zU BK260.out 2
               have hfz185_3 := zU BK260.out 3
               have hfz185_4 := zU BK260.out 4
               go_wp2_with (first | ((with_reducible refine gate_callee (f := 15) rfl ?_); refine goesL_ (some 94) rfl rfl Try.func15 (by kernel_rfl) rfl #[.agg #[.int .i64 t316,.int .i64 t317,.slice Ao168 t318.length co168,.int .i64 t321,.slice Ao171 t322.length co171],.agg #[.int .i64 t250,.int .i64 t251,.slice Ao43 t252.length co43,.int .i64 t255,.slice Ao46 t256.length co46]] rfl (by (try simp only [List.map_toArray,List.map_cons,List.map_nil]); first | done|rfl|(simp only [List.length_drop,List.length_take]; rfl)) ?_; (with_reducible refine (laws_eqEnd.calls kj97 t316 t317 _ _ t318 t321 _ _ t322 t250 t251 _ _ t252 t255 _ _ t256 true _ ?side1 ?side2 ?side3 ?side4 ?side5 ?side6 ?side7 ?side8 A173.out).mono ?_); (case side1 => refine (Kd.Q_reads' (e := 9) (base := w.heap.size) (ok := fun k_ => (some k_ ≠ (v307 : Value).ownBlock ∧ (some k_ ≠ (v311 : Value).ownBlock ∧ (some k_ ≠ (.slice Ao171 t322.length co171 : Value).ownBlock ∧ (some k_ ≠ (.slice Ao43 t252.length co43 : Value).ownBlock ∧ (some k_ ≠ (.slice Ao46 t256.length co46 : Value).ownBlock ∧ (some k_ ≠ (.slice Ao56 t297.length co56 : Value).ownBlock ∧ (some k_ ≠ (.slice Ao57 t298.length co57 : Value).ownBlock ∧ (some k_ ≠ (.slice Ao66 t276.length co66 : Value).ownBlock ∧ some k_ ≠ (.slice Ao69 t280.length co69 : Value).ownBlock))))))))) (n := t318.length) (c := co168) ?_).2.2; exact (by (with_reducible repeat (first|apply Kd.Q_alloc|apply Kd.Q_drewN|apply Kd.Q_drew)); exact (Kd.Q_mono (Kd.Q_far (p := ⟨gb326,4,none⟩) (Kd.Q_far (p := ⟨gb326,3,none⟩) (Kd.Q_far (p := ⟨gb326,2,none⟩) (Kd.Q_far (p := ⟨gb326,1,none⟩) (Kd.Q_far (p := ⟨gb326,0,none⟩) (Kd.Q_types HO320.out BK326.out (by decide)) (fun _ h=>h.2) (.int .i64 t316)) (fun _ h=>h.2) (.int .i64 t317)) (fun _ h=>h.2) (.slice Ao168 t318.length co168)) (fun _ h=>h.2) (.int .i64 t321)) (fun _ h=>h.2) (.slice Ao171 t322.length co171)) (fun _ h_ => h_.1)))); (case side2 => exact (Kd.Q_reads' HO320.out).2.1); (case side3 => refine (zI (e := 9) (base := w.heap.size) (ok := fun k_ => (some k_ ≠ (v307 : Value).ownBlock ∧ (some k_ ≠ (v311 : Value).ownBlock ∧ (some k_ ≠ (.slice Ao168 t318.length co168 : Value).ownBlock ∧ (some k_ ≠ (.slice Ao43 t252.length co43 : Value).ownBlock ∧ (some k_ ≠ (.slice Ao46 t256.length co46 : Value).ownBlock ∧ (some k_ ≠ (.slice Ao56 t297.length co56 : Value).ownBlock ∧ (some k_ ≠ (.slice Ao57 t298.length co57 : Value).ownBlock ∧ (some k_ ≠ (.slice Ao66 t276.length co66 : Value).ownBlock ∧ some k_ ≠ (.slice Ao69 t280.length co69 : Value).ownBlock))))))))) (n := t322.length) (c := co171) ?_).2.2; exact (rrA19c (zC (zB (p := ⟨gb326,4,none⟩) (zB (p := ⟨gb326,3,none⟩) (zB (p := ⟨gb326,2,none⟩) (zB (p := ⟨gb326,1,none⟩) (zB (p := ⟨gb326,0,none⟩) (zH HO324.out BK326.out (by decide)) (fun _ h=>h.2) (.int .i64 t316)) (fun _ h=>h.2) (.int .i64 t317)) (fun _ h=>h.2) (.slice Ao168 t318.length co168)) (fun _ h=>h.2) (.int .i64 t321)) (fun _ h=>h.2) (.slice Ao171 t322.length co171)) (fun _ h_ => h_.1)))); (case side4 => exact (zI HO324.out).2.1); (case side5 => refine (Kd.Q_reads' (e := 9) (base := w.heap.size) (ok := fun k_ => (some k_ ≠ (v307 : Value).ownBlock ∧ (some k_ ≠ (v311 : Value).ownBlock ∧ (some k_ ≠ (.slice Ao168 t318.length co168 : Value).ownBlock ∧ (some k_ ≠ (.slice Ao171 t322.length co171 : Value).ownBlock ∧ (some k_ ≠ (.slice Ao46 t256.length co46 : Value).ownBlock ∧ (some k_ ≠ (.slice Ao56 t297.length co56 : Value).ownBlock ∧ (some k_ ≠ (.slice Ao57 t298.length co57 : Value).ownBlock ∧ (some k_ ≠ (.slice Ao66 t276.length co66 : Value).ownBlock ∧ some k_ ≠ (.slice Ao69 t280.length co69 : Value).ownBlock))))))))) (n := t252.length) (c := co43) ?_).2.2; exact (by (with_reducible repeat (first|apply Kd.Q_alloc|apply Kd.Q_drewN|apply Kd.Q_drew)); exact (Kd.Q_mono (Kd.Q_far (p := ⟨gb326,4,none⟩) (Kd.Q_far (p := ⟨gb326,3,none⟩) (Kd.Q_far (p := ⟨gb326,2,none⟩) (Kd.Q_far (p := ⟨gb326,1,none⟩) (Kd.Q_far (p := ⟨gb326,0,none⟩) (Kd.Q_types HO_261002.out BK326.out (by decide)) (fun _ h=>h.2) (.int .i64 t316)) (fun _ h=>h.2) (.int .i64 t317)) (fun _ h=>h.2) (.slice Ao168 t318.length co168)) (fun _ h=>h.2) (.int .i64 t321)) (fun _ h=>h.2) (.slice Ao171 t322.length co171)) (fun _ h_ => h_.1)))); (case side6 => exact (Kd.Q_reads' HO_261002.out).2.1); (case side7 => refine (zI (e := 9) (base := w.heap.size) (ok := fun k_ => (some k_ ≠ (v307 : Value).ownBlock ∧ (some k_ ≠ (v311 : Value).ownBlock ∧ (some k_ ≠ (.slice Ao168 t318.length co168 : Value).ownBlock ∧ (some k_ ≠ (.slice Ao171 t322.length co171 : Value).ownBlock ∧ (some k_ ≠ (.slice Ao43 t252.length co43 : Value).ownBlock ∧ (some k_ ≠ (.slice Ao56 t297.length co56 : Value).ownBlock ∧ (some k_ ≠ (.slice Ao57 t298.length co57 : Value).ownBlock ∧ (some k_ ≠ (.slice Ao66 t276.length co66 : Value).ownBlock ∧ some k_ ≠ (.slice Ao69 t280.length co69 : Value).ownBlock))))))))) (n := t256.length) (c := co46) ?_).2.2; exact (rrA19c (zC (zB (p := ⟨gb326,4,none⟩) (zB (p := ⟨gb326,3,none⟩) (zB (p := ⟨gb326,2,none⟩) (zB (p := ⟨gb326,1,none⟩) (zB (p := ⟨gb326,0,none⟩) (zH HO_261004.out BK326.out (by decide)) (fun _ h=>h.2) (.int .i64 t316)) (fun _ h=>h.2) (.int .i64 t317)) (fun _ h=>h.2) (.slice Ao168 t318.length co168)) (fun _ h=>h.2) (.int .i64 t321)) (fun _ h=>h.2) (.slice Ao171 t322.length co171)) (fun _ h_ => h_.1)))); (case side8 => exact (zI HO_261004.out).2.1); rintro e w186 ⟨rfl,hb⟩; refine ⟨_,rfl,?_⟩; have n0_ := zA (Kd.Q_below (by (with_reducible repeat (first|apply Kd.Q_alloc|apply Kd.Q_drewN|apply Kd.Q_drew)); exact (Kd.Q_mono (Kd.Q_far (p := ⟨gb326,4,none⟩) (Kd.Q_far (p := ⟨gb326,3,none⟩) (Kd.Q_far (p := ⟨gb326,2,none⟩) (Kd.Q_far (p := ⟨gb326,1,none⟩) (Kd.Q_far (p := ⟨gb326,0,none⟩) (Kd.Q_types HO_261002.out BK326.out (by decide)) (fun _ h=>h.2) (.int .i64 t316)) (fun _ h=>h.2) (.int .i64 t317)) (fun _ h=>h.2) (.slice Ao168 t318.length co168)) (fun _ h=>h.2) (.int .i64 t321)) (fun _ h=>h.2) (.slice Ao171 t322.length co171)) (fun _ h_ => h_.1))) hb); have n1_ := zA (zD (rrA19c (zC (zB (p := ⟨gb326,4,none⟩) (zB (p := ⟨gb326,3,none⟩) (zB (p := ⟨gb326,2,none⟩) (zB (p := ⟨gb326,1,none⟩) (zB (p := ⟨gb326,0,none⟩) (zH HO_261004.out BK326.out (by decide)) (fun _ h=>h.2) (.int .i64 t316)) (fun _ h=>h.2) (.int .i64 t317)) (fun _ h=>h.2) (.slice Ao168 t318.length co168)) (fun _ h=>h.2) (.int .i64 t321)) (fun _ h=>h.2) (.slice Ao171 t322.length co171)) (fun _ h_ => h_.1))) hb); have n2_ := zA (Kd.Q_below (by (with_reducible repeat (first|apply Kd.Q_alloc|apply Kd.Q_drewN|apply Kd.Q_drew)); exact (Kd.Q_mono (Kd.Q_far (p := ⟨gb326,4,none⟩) (Kd.Q_far (p := ⟨gb326,3,none⟩) (Kd.Q_far (p := ⟨gb326,2,none⟩) (Kd.Q_far (p := ⟨gb326,1,none⟩) (Kd.Q_far (p := ⟨gb326,0,none⟩) (Kd.Q_types HO_271002.out BK326.out (by decide)) (fun _ h=>h.2) (.int .i64 t316)) (fun _ h=>h.2) (.int .i64 t317)) (fun _ h=>h.2) (.slice Ao168 t318.length co168)) (fun _ h=>h.2) (.int .i64 t321)) (fun _ h=>h.2) (.slice Ao171 t322.length co171)) (fun _ h_ => h_.1))) hb); have n3_ := zA (zD (rrA19c (zC (zB (p := ⟨gb326,4,none⟩) (zB (p := ⟨gb326,3,none⟩) (zB (p := ⟨gb326,2,none⟩) (zB (p := ⟨gb326,1,none⟩) (zB (p := ⟨gb326,0,none⟩) (zH HO_271004.out BK326.out (by decide)) (fun _ h=>h.2) (.int .i64 t316)) (fun _ h=>h.2) (.int .i64 t317)) (fun _ h=>h.2) (.slice Ao168 t318.length co168)) (fun _ h=>h.2) (.int .i64 t321)) (fun _ h=>h.2) (.slice Ao171 t322.length co171)) (fun _ h_ => h_.1))) hb); have n4_ := zA (Kd.Q_below (by (with_reducible repeat (first|apply Kd.Q_alloc|apply Kd.Q_drewN|apply Kd.Q_drew)); exact (Kd.Q_mono (Kd.Q_far (p := ⟨gb326,4,none⟩) (Kd.Q_far (p := ⟨gb326,3,none⟩) (Kd.Q_far (p := ⟨gb326,2,none⟩) (Kd.Q_far (p := ⟨gb326,1,none⟩) (Kd.Q_far (p := ⟨gb326,0,none⟩) (Kd.Q_types HO_285002.out BK326.out (by decide)) (fun _ h=>h.2) (.int .i64 t316)) (fun _ h=>h.2) (.int .i64 t317)) (fun _ h=>h.2) (.slice Ao168 t318.length co168)) (fun _ h=>h.2) (.int .i64 t321)) (fun _ h=>h.2) (.slice Ao171 t322.length co171)) (fun _ h_ => h_.1))) hb); have n5_ := zA (zD (rrA19c (zC (zB (p := ⟨gb326,4,none⟩) (zB (p := ⟨gb326,3,none⟩) (zB (p := ⟨gb326,2,none⟩) (zB (p := ⟨gb326,1,none⟩) (zB (p := ⟨gb326,0,none⟩) (zH HO_285004.out BK326.out (by decide)) (fun _ h=>h.2) (.int .i64 t316)) (fun _ h=>h.2) (.int .i64 t317)) (fun _ h=>h.2) (.slice Ao168 t318.length co168)) (fun _ h=>h.2) (.int .i64 t321)) (fun _ h=>h.2) (.slice Ao171 t322.length co171)) (fun _ h_ => h_.1))) hb); have n6_ := zA (zD (rrA19c (zC (zB (p := ⟨gb326,4,none⟩) (zB (p := ⟨gb326,3,none⟩) (zB (p := ⟨gb326,2,none⟩) (zB (p := ⟨gb326,1,none⟩) (zB (p := ⟨gb326,0,none⟩) (zH HO308.out BK326.out (by decide)) (fun _ h=>h.2) (.int .i64 t316)) (fun _ h=>h.2) (.int .i64 t317)) (fun _ h=>h.2) (.slice Ao168 t318.length co168)) (fun _ h=>h.2) (.int .i64 t321)) (fun _ h=>h.2) (.slice Ao171 t322.length co171)) (fun _ h_ => h_.1))) hb); have n7_ := zA (zD (rrA19c (zC (zB (p := ⟨gb326,4,none⟩) (zB (p := ⟨gb326,3,none⟩) (zB (p := ⟨gb326,2,none⟩) (zB (p := ⟨gb326,1,none⟩) (zB (p := ⟨gb326,0,none⟩) (zH HO312.out BK326.out (by decide)) (fun _ h=>h.2) (.int .i64 t316)) (fun _ h=>h.2) (.int .i64 t317)) (fun _ h=>h.2) (.slice Ao168 t318.length co168)) (fun _ h=>h.2) (.int .i64 t321)) (fun _ h=>h.2) (.slice Ao171 t322.length co171)) (fun _ h_ => h_.1))) hb); have n8_ := zA (Kd.Q_below (by (with_reducible repeat (first|apply Kd.Q_alloc|apply Kd.Q_drewN|apply Kd.Q_drew)); exact (Kd.Q_mono (Kd.Q_far (p := ⟨gb326,4,none⟩) (Kd.Q_far (p := ⟨gb326,3,none⟩) (Kd.Q_far (p := ⟨gb326,2,none⟩) (Kd.Q_far (p := ⟨gb326,1,none⟩) (Kd.Q_far (p := ⟨gb326,0,none⟩) (Kd.Q_types HO320.out BK326.out (by decide)) (fun _ h=>h.2) (.int .i64 t316)) (fun _ h=>h.2) (.int .i64 t317)) (fun _ h=>h.2) (.slice Ao168 t318.length co168)) (fun _ h=>h.2) (.int .i64 t321)) (fun _ h=>h.2) (.slice Ao171 t322.length co171)) (fun _ h_ => h_.1))) hb); have n9_ := zA (zD (rrA19c (zC (zB (p := ⟨gb326,4,none⟩) (zB (p := ⟨gb326,3,none⟩) (zB (p := ⟨gb326,2,none⟩) (zB (p := ⟨gb326,1,none⟩) (zB (p := ⟨gb326,0,none⟩) (zH HO324.out BK326.out (by decide)) (fun _ h=>h.2) (.int .i64 t316)) (fun _ h=>h.2) (.int .i64 t317)) (fun _ h=>h.2) (.slice Ao168 t318.length co168)) (fun _ h=>h.2) (.int .i64 t321)) (fun _ h=>h.2) (.slice Ao171 t322.length co171)) (fun _ h_ => h_.1))) hb); have n10_ := zA (zV (g := gb234) (o := .cells #[.int .i64 a0_0,.int .i64 a0_1,.slice A0_2 l0_2.length c0_2,.int .i64 a0_3,.slice A0_4 l0_4.length c0_4] 24 (0,0)) (by (with_reducible repeat (first|refine zR ?_ _|refine zT ?_|refine zS ?_ _)); refine zX ?_ NB234_326.out _; (with_reducible repeat (first|refine zR ?_ _|refine zT ?_|refine zS ?_ _)); refine zX ?_ NB234_326.out _; (with_reducible repeat (first|refine zR ?_ _|refine zT ?_|refine zS ?_ _)); refine zX ?_ NB234_326.out _; (with_reducible repeat (first|refine zR ?_ _|refine zT ?_|refine zS ?_ _)); refine zX ?_ NB234_326.out _; (with_reducible repeat (first|refine zR ?_ _|refine zT ?_|refine zS ?_ _)); refine zX ?_ NB234_326.out _; (with_reducible repeat (first|refine zR ?_ _|refine zT ?_|refine zS ?_ _)); exact BK234.out) hb); have n11_ := zA (zV (g := gb235) (o := .cells #[.int .i64 a1_0,.int .i64 a1_1,.string a1_2] 41 (0,0)) (by (with_reducible repeat (first|refine zR ?_ _|refine zT ?_|refine zS ?_ _)); refine zX ?_ NB235_326.out _; (with_reducible repeat (first|refine zR ?_ _|refine zT ?_|refine zS ?_ _)); refine zX ?_ NB235_326.out _; (with_reducible repeat (first|refine zR ?_ _|refine zT ?_|refine zS ?_ _)); refine zX ?_ NB235_326.out _; (with_reducible repeat (first|refine zR ?_ _|refine zT ?_|refine zS ?_ _)); refine zX ?_ NB235_326.out _; (with_reducible repeat (first|refine zR ?_ _|refine zT ?_|refine zS ?_ _)); refine zX ?_ NB235_326.out _; (with_reducible repeat (first|refine zR ?_ _|refine zT ?_|refine zS ?_ _)); exact BK235.out) hb); have n12_ := zA (zV (g := gb260) (o := .cells #[.int .i64 t250,.int .i64 t251,.slice Ao43 t252.length co43,.int .i64 t255,.slice Ao46 t256.length co46] 26 (0,0)) (by (with_reducible repeat (first|refine zR ?_ _|refine zT ?_|refine zS ?_ _)); refine zX ?_ NB260_326.out _; (with_reducible repeat (first|refine zR ?_ _|refine zT ?_|refine zS ?_ _)); refine zX ?_ NB260_326.out _; (with_reducible repeat (first|refine zR ?_ _|refine zT ?_|refine zS ?_ _)); refine zX ?_ NB260_326.out _; (with_reducible repeat (first|refine zR ?_ _|refine zT ?_|refine zS ?_ _)); refine zX ?_ NB260_326.out _; (with_reducible repeat (first|refine zR ?_ _|refine zT ?_|refine zS ?_ _)); refine zX ?_ NB260_326.out _; (with_reducible repeat (first|refine zR ?_ _|refine zT ?_|refine zS ?_ _)); exact BK260.out) hb); have n13_ := zA (zV (g := gb270) (o := .cells #[.int .i64 t261,.int .i64 t262,.slice Ao56 t297.length co56,.int .i64 t266,.slice Ao57 t298.length co57] 26 (0,0)) (by (with_reducible repeat (first|refine zR ?_ _|refine zT ?_|refine zS ?_ _)); refine zX ?_ NB270_326.out _; (with_reducible repeat (first|refine zR ?_ _|refine zT ?_|refine zS ?_ _)); refine zX ?_ NB270_326.out _; (with_reducible repeat (first|refine zR ?_ _|refine zT ?_|refine zS ?_ _)); refine zX ?_ NB270_326.out _; (with_reducible repeat (first|refine zR ?_ _|refine zT ?_|refine zS ?_ _)); refine zX ?_ NB270_326.out _; (with_reducible repeat (first|refine zR ?_ _|refine zT ?_|refine zS ?_ _)); refine zX ?_ NB270_326.out _; (with_reducible repeat (first|refine zR ?_ _|refine zT ?_|refine zS ?_ _)); exact BK270.out) hb); have n14_ := zA (zV (g := gb284) (o := .cells #[.int .i64 t274,.int .i64 t275,.slice Ao66 t276.length co66,.int .i64 t279,.slice Ao69 t280.length co69] 26 (0,0)) (by (with_reducible repeat (first|refine zR ?_ _|refine zT ?_|refine zS ?_ _)); refine zX ?_ NB284_326.out _; (with_reducible repeat (first|refine zR ?_ _|refine zT ?_|refine zS ?_ _)); refine zX ?_ NB284_326.out _; (with_reducible repeat (first|refine zR ?_ _|refine zT ?_|refine zS ?_ _)); refine zX ?_ NB284_326.out _; (with_reducible repeat (first|refine zR ?_ _|refine zT ?_|refine zS ?_ _)); refine zX ?_ NB284_326.out _; (with_reducible repeat (first|refine zR ?_ _|refine zT ?_|refine zS ?_ _)); refine zX ?_ NB284_326.out _; (with_reducible repeat (first|refine zR ?_ _|refine zT ?_|refine zS ?_ _)); exact BK284.out) hb); have n15_ := zA (zV (g := gb326) (o := .cells #[.int .i64 t316,.int .i64 t317,.slice Ao168 t318.length co168,.int .i64 t321,.slice Ao171 t322.length co171] 26 (0,0)) (by (with_reducible repeat (first|refine zR ?_ _|refine zT ?_|refine zS ?_ _)); refine blk_put (cs := #[.int .i64 t316,.int .i64 t317,.slice Ao168 t318.length co168,.int .i64 t321,.slice none 0 0]) ?_ 4 _ rfl; (with_reducible repeat (first|refine zR ?_ _|refine zT ?_|refine zS ?_ _)); refine blk_put (cs := #[.int .i64 t316,.int .i64 t317,.slice Ao168 t318.length co168,.int .i64 0,.slice none 0 0]) ?_ 3 _ rfl; (with_reducible repeat (first|refine zR ?_ _|refine zT ?_|refine zS ?_ _)); refine blk_put (cs := #[.int .i64 t316,.int .i64 t317,.slice none 0 0,.int .i64 0,.slice none 0 0]) ?_ 2 _ rfl; (with_reducible repeat (first|refine zR ?_ _|refine zT ?_|refine zS ?_ _)); refine blk_put (cs := #[.int .i64 t316,.int .i64 0,.slice none 0 0,.int .i64 0,.slice none 0 0]) ?_ 1 _ rfl; (with_reducible repeat (first|refine zR ?_ _|refine zT ?_|refine zS ?_ _)); refine blk_put (cs := #[.int .i64 0,.int .i64 0,.slice none 0 0,.int .i64 0,.slice none 0 0]) ?_ 0 _ rfl; (with_reducible repeat (first|refine zR ?_ _|refine zT ?_|refine zS ?_ _)); exact BK326.out) hb); have n16_ := zA (zZ (by repeat (first|(with_reducible first|exact HB.out|apply zO|apply zQ|apply zP|refine zN ?_ GE234.out|refine zN ?_ GE235.out|refine zN ?_ GE260.out|refine zN ?_ GE270.out|refine zN ?_ GE284.out|refine zN ?_ GE326.out)|exact HB.out)) hb); clear HO_261002 HO_261004 HO_271002 HO_271004 HO_285002 HO_285004 HO308 HO312 HO320 HO324 BK234 BK235 BK260 BK270 BK284 BK326 HB; have HO_261002 := n0_; have HO_261004 := n1_; have HO_271002 := n2_; have HO_271004 := n3_; have HO_285002 := n4_; have HO_285004 := n5_; have HO308 := n6_; have HO312 := n7_; have HO320 := n8_; have HO324 := n9_; have BK234 := n10_; have BK235 := n11_; have BK260 := n12_; have BK270 := n13_; have BK284 := n14_; have BK326 := n15_; have HB := n16_; clear n0_ n1_ n2_ n3_ n4_ n5_ n6_ n7_ n8_ n9_ n10_ n11_ n12_ n13_ n14_ n15_ n16_; (try clear hb); (try clear hb2); (try clear hk); (try clear hi)))
               go_meet
               case rel => exact ⟨_,((t325 != t259)),(by first|rfl|(simp; done)|(simp [*]; done)),H',⟨by have := HJ24.out; have := HJ97.out; first|omega|exact Nat.le_refl _⟩,⟨by (try simp only [hl271002_97]); (try simp only [hl271004_97]); (with_reducible repeat (first|apply Kd.Q_alloc|apply Kd.Q_drewN|apply Kd.Q_drew)); exact Kd.Q_mono HO_261002.out (fun _ hk => ⟨hk.2.2.2.2.1,⟨hk.2.2.2.2.2.1,⟨hk.2.2.2.2.2.2.1,⟨hk.2.2.2.2.2.2.2.1,⟨hk.2.2.2.2.2.2.2.2,⟨hk.2.2.1,hk.2.2.2.1⟩⟩⟩⟩⟩⟩)⟩,⟨by (try simp only [hl271002_97]); (try simp only [hl271004_97]); (with_reducible repeat (first|apply zJ|apply zK|apply zL)); exact zC HO_261004.out (fun _ hk => ⟨hk.2.2.2.2.1,⟨hk.2.2.2.2.2.1,⟨hk.2.2.2.2.2.2.1,⟨hk.2.2.2.2.2.2.2.1,⟨hk.2.2.2.2.2.2.2.2,⟨hk.2.2.1,hk.2.2.2.1⟩⟩⟩⟩⟩⟩)⟩,⟨by (try simp only [hl271002_97]); (try simp only [hl271004_97]); (with_reducible repeat (first|apply Kd.Q_alloc|apply Kd.Q_drewN|apply Kd.Q_drew)); exact Kd.Q_mono HO_271002.out (fun _ hk => ⟨hk.2.2.2.2.1,⟨hk.2.2.2.2.2.1,⟨hk.2.2.2.2.2.2.1,⟨hk.2.2.2.2.2.2.2.1,⟨hk.2.2.2.2.2.2.2.2,⟨hk.2.2.1,hk.2.2.2.1⟩⟩⟩⟩⟩⟩)⟩,⟨by (try simp only [hl271002_97]); (try simp only [hl271004_97]); (with_reducible repeat (first|apply zJ|apply zK|apply zL)); exact zC HO_271004.out (fun _ hk => ⟨hk.2.2.2.2.1,⟨hk.2.2.2.2.2.1,⟨hk.2.2.2.2.2.2.1,⟨hk.2.2.2.2.2.2.2.1,⟨hk.2.2.2.2.2.2.2.2,⟨hk.2.2.1,hk.2.2.2.1⟩⟩⟩⟩⟩⟩)⟩,⟨by (try simp only [hl271002_97]); (try simp only [hl271004_97]); (with_reducible repeat (first|apply Kd.Q_alloc|apply Kd.Q_drewN|apply Kd.Q_drew)); exact Kd.Q_mono HO_285002.out (fun _ hk => ⟨hk.2.2.2.2.1,⟨hk.2.2.2.2.2.1,⟨hk.2.2.2.2.2.2.1,⟨hk.2.2.2.2.2.2.2.1,⟨hk.2.2.2.2.2.2.2.2,⟨hk.2.2.1,hk.2.2.2.1⟩⟩⟩⟩⟩⟩)⟩,⟨by (try simp only [hl271002_97]); (try simp only [hl271004_97]); (with_reducible repeat (first|apply zJ|apply zK|apply zL)); exact zC HO_285004.out (fun _ hk => ⟨hk.2.2.2.2.1,⟨hk.2.2.2.2.2.1,⟨hk.2.2.2.2.2.2.1,⟨hk.2.2.2.2.2.2.2.1,⟨hk.2.2.2.2.2.2.2.2,⟨hk.2.2.1,hk.2.2.2.1⟩⟩⟩⟩⟩⟩)⟩,⟨by (try simp only [hl271002_97]); (try simp only [hl271004_97]); (with_reducible repeat (first|apply Kd.Q_alloc|apply Kd.Q_drewN|apply Kd.Q_drew)); exact Kd.Q_mono HO320.out (fun _ hk => ⟨hk.2.2.2.1,⟨hk.2.2.2.2.1,⟨hk.2.2.2.2.2.1,⟨hk.2.2.2.2.2.2.1,⟨hk.2.2.2.2.2.2.2.1,⟨hk.2.2.2.2.2.2.2.2,hk.2.2.1⟩⟩⟩⟩⟩⟩)⟩,⟨by (try simp only [hl271002_97]); (try simp only [hl271004_97]); (with_reducible repeat (first|apply zJ|apply zK|apply zL)); exact zC HO324.out (fun _ hk => ⟨hk.2.2.2.1,⟨hk.2.2.2.2.1,⟨hk.2.2.2.2.2.1,⟨hk.2.2.2.2.2.2.1,⟨hk.2.2.2.2.2.2.2.1,⟨hk.2.2.2.2.2.2.2.2,hk.2.2.1⟩⟩⟩⟩⟩⟩)⟩,⟨by (try simp only [hl271002_97]); (try simp only [hl271004_97]); (with_reducible repeat (first|refine zR ?_ _|refine zT ?_|refine zS ?_ _)); exact BK234.out⟩,⟨by (try simp only [hl271002_97]); (try simp only [hl271004_97]); (with_reducible repeat (first|refine zR ?_ _|refine zT ?_|refine zS ?_ _)); exact BK235.out⟩,⟨by (try simp only [hl271002_97]); (try simp only [hl271004_97]); (with_reducible repeat (first|refine zR ?_ _|refine zT ?_|refine zS ?_ _)); exact BK260.out⟩,⟨by (try simp only [hl271002_97]); (try simp only [hl271004_97]); (with_reducible repeat (first|refine zR ?_ _|refine zT ?_|refine zS ?_ _)); exact BK270.out⟩,⟨by (try simp only [hl271002_97]); (try simp only [hl271004_97]); (with_reducible repeat (first|refine zR ?_ _|refine zT ?_|refine zS ?_ _)); exact BK284.out⟩,⟨by (try simp only [hl271002_97]); (try simp only [hl271004_97]); (with_reducible repeat (first|refine zR ?_ _|refine zT ?_|refine zS ?_ _)); exact BK326.out⟩,⟨by repeat (first|(with_reducible first|exact HB.out|apply zO|apply zQ|apply zP|refine zN ?_ GE234.out|refine zN ?_ GE235.out|refine zN ?_ GE260.out|refine zN ?_ GE270.out|refine zN ?_ GE284.out|refine zN ?_ GE326.out)|exact HB.out)⟩⟩
              ·
               replace c174 := Bool.eq_false_iff.mpr c174
               subst c174
               have H1 : (laws_FnExactReceive.j2 kj97 t300 true t274 t275 t301 t279 t302) = some r := by rw [if_neg (show ¬ (false = true) by decide)] at H; exact H
               clear H; have H := H1; clear H1
               have H' := zA H
               clear H
               have hnb187 := NB326_234.out
               have hnc187 := NB234_326.out
               have hnb188 := NB326_235.out
               have hnc188 := NB235_326.out
               have hnb189 := NB326_260.out
               have hnc189 := NB260_326.out
               have hnb190 := NB326_270.out
               have hnc190 := NB270_326.out
               have hnb191 := NB326_284.out
               have hnc191 := NB284_326.out
               have hcz192_0 : w165.cell? ⟨gb326,0,none⟩ = some (.int .i64 0) := (zW BK326.out 0).trans rfl
               have hcz192_1 : w165.cell? ⟨gb326,1,none⟩ = some (.int .i64 0) := (zW BK326.out 1).trans rfl
               have hcz192_2 : w165.cell? ⟨gb326,2,none⟩ = some (.slice none 0 0) := (zW BK326.out 2).trans rfl
               have hcz192_3 : w165.cell? ⟨gb326,3,none⟩ = some (.int .i64 0) := (zW BK326.out 3).trans rfl
               have hcz192_4 : w165.cell? ⟨gb326,4,none⟩ = some (.slice none 0 0) := (zW BK326.out 4).trans rfl
               have hfz192_0 := zU BK326.out 0
               have hfz192_1 := zU BK326.out 1
               have hfz192_2 := zU BK326.out 2
               have hfz192_3 := zU BK326.out 3
               have hfz192_4 := zU BK326.out 4
               have hnb193 := NB260_234.out
               have hnc193 := NB234_260.out
               have hnb194 := NB260_235.out
               have hnc194 := NB235_260.out
               have hnb195 := NB260_270.out
               have hnc195 := NB270_260.out
               have hnb196 := NB260_284.out
               have hnc196 := NB284_260.out
               have hcz197_0 : w165.cell? ⟨gb260,0,none⟩ = some (.int .i64 t250) := (zW BK260.out 0).trans rfl
               have hcz197_1 : w165.cell? ⟨gb260,1,none⟩ = some (.int .i64 t251) := (zW BK260.out 1).trans rfl
               have hcz197_2 : w165.cell? ⟨gb260,2,none⟩ = some (.slice Ao43 t252.length co43) := (zW BK260.out 2).trans rfl
               have hcz197_3 : w165.cell? ⟨gb260,3,none⟩ = some (.int .i64 t255) := (zW BK260.out 3).trans rfl
               have hcz197_4 : w165.cell? ⟨gb260,4,none⟩ = some (.slice Ao46 t256.length co46) := (zW BK260.out 4).trans rfl
               have hfz197_0 := zU BK260.out 0
               have hfz197_1 := zU BK260.out 1
               have hfz197_2 := zU BK260.out 2
               have hfz197_3 := zU BK260.out 3
               have hfz197_4 := zU BK260.out 4
               go_wp2_with (first | ((with_reducible refine gate_callee (f := 15) rfl ?_); refine goesL_ (some 94) rfl rfl Try.func15 (by kernel_rfl) rfl #[.agg #[.int .i64 t316,.int .i64 t317,.slice Ao168 t318.length co168,.int .i64 t321,.slice Ao171 t322.length co171],.agg #[.int .i64 t250,.int .i64 t251,.slice Ao43 t252.length co43,.int .i64 t255,.slice Ao46 t256.length co46]] rfl (by (try simp only [List.map_toArray,List.map_cons,List.map_nil]); first | done|rfl|(simp only [List.length_drop,List.length_take]; rfl)) ?_; (with_reducible refine (laws_eqEnd.calls kj97 t316 t317 _ _ t318 t321 _ _ t322 t250 t251 _ _ t252 t255 _ _ t256 false _ ?side1 ?side2 ?side3 ?side4 ?side5 ?side6 ?side7 ?side8 A173.out).mono ?_); (case side1 => refine (Kd.Q_reads' (e := 9) (base := w.heap.size) (ok := fun k_ => (some k_ ≠ (v307 : Value).ownBlock ∧ (some k_ ≠ (v311 : Value).ownBlock ∧ (some k_ ≠ (.slice Ao171 t322.length co171 : Value).ownBlock ∧ (some k_ ≠ (.slice Ao43 t252.length co43 : Value).ownBlock ∧ (some k_ ≠ (.slice Ao46 t256.length co46 : Value).ownBlock ∧ (some k_ ≠ (.slice Ao56 t297.length co56 : Value).ownBlock ∧ (some k_ ≠ (.slice Ao57 t298.length co57 : Value).ownBlock ∧ (some k_ ≠ (.slice Ao66 t276.length co66 : Value).ownBlock ∧ some k_ ≠ (.slice Ao69 t280.length co69 : Value).ownBlock))))))))) (n := t318.length) (c := co168) ?_).2.2; exact (by (with_reducible repeat (first|apply Kd.Q_alloc|apply Kd.Q_drewN|apply Kd.Q_drew)); exact (Kd.Q_mono (Kd.Q_far (p := ⟨gb326,4,none⟩) (Kd.Q_far (p := ⟨gb326,3,none⟩) (Kd.Q_far (p := ⟨gb326,2,none⟩) (Kd.Q_far (p := ⟨gb326,1,none⟩) (Kd.Q_far (p := ⟨gb326,0,none⟩) (Kd.Q_types HO320.out BK326.out (by decide)) (fun _ h=>h.2) (.int .i64 t316)) (fun _ h=>h.2) (.int .i64 t317)) (fun _ h=>h.2) (.slice Ao168 t318.length co168)) (fun _ h=>h.2) (.int .i64 t321)) (fun _ h=>h.2) (.slice Ao171 t322.length co171)) (fun _ h_ => h_.1)))); (case side2 => exact (Kd.Q_reads' HO320.out).2.1); (case side3 => refine (zI (e := 9) (base := w.heap.size) (ok := fun k_ => (some k_ ≠ (v307 : Value).ownBlock ∧ (some k_ ≠ (v311 : Value).ownBlock ∧ (some k_ ≠ (.slice Ao168 t318.length co168 : Value).ownBlock ∧ (some k_ ≠ (.slice Ao43 t252.length co43 : Value).ownBlock ∧ (some k_ ≠ (.slice Ao46 t256.length co46 : Value).ownBlock ∧ (some k_ ≠ (.slice Ao56 t297.length co56 : Value).ownBlock ∧ (some k_ ≠ (.slice Ao57 t298.length co57 : Value).ownBlock ∧ (some k_ ≠ (.slice Ao66 t276.length co66 : Value).ownBlock ∧ some k_ ≠ (.slice Ao69 t280.length co69 : Value).ownBlock))))))))) (n := t322.length) (c := co171) ?_).2.2; exact (rrA19c (zC (zB (p := ⟨gb326,4,none⟩) (zB (p := ⟨gb326,3,none⟩) (zB (p := ⟨gb326,2,none⟩) (zB (p := ⟨gb326,1,none⟩) (zB (p := ⟨gb326,0,none⟩) (zH HO324.out BK326.out (by decide)) (fun _ h=>h.2) (.int .i64 t316)) (fun _ h=>h.2) (.int .i64 t317)) (fun _ h=>h.2) (.slice Ao168 t318.length co168)) (fun _ h=>h.2) (.int .i64 t321)) (fun _ h=>h.2) (.slice Ao171 t322.length co171)) (fun _ h_ => h_.1)))); (case side4 => exact (zI HO324.out).2.1); (case side5 => refine (Kd.Q_reads' (e := 9) (base := w.heap.size) (ok := fun k_ => (some k_ ≠ (v307 : Value).ownBlock ∧ (some k_ ≠ (v311 : Value).ownBlock ∧ (some k_ ≠ (.slice Ao168 t318.length co168 : Value).ownBlock ∧ (some k_ ≠ (.slice Ao171 t322.length co171 : Value).ownBlock ∧ (some k_ ≠ (.slice Ao46 t256.length co46 : Value).ownBlock ∧ (some k_ ≠ (.slice Ao56 t297.length co56 : Value).ownBlock ∧ (some k_ ≠ (.slice Ao57 t298.length co57 : Value).ownBlock ∧ (some k_ ≠ (.slice Ao66 t276.length co66 : Value).ownBlock ∧ some k_ ≠ (.slice Ao69 t280.length co69 : Value).ownBlock))))))))) (n := t252.length) (c := co43) ?_).2.2; exact (by (with_reducible repeat (first|apply Kd.Q_alloc|apply Kd.Q_drewN|apply Kd.Q_drew)); exact (Kd.Q_mono (Kd.Q_far (p := ⟨gb326,4,none⟩) (Kd.Q_far (p := ⟨gb326,3,none⟩) (Kd.Q_far (p := ⟨gb326,2,none⟩) (Kd.Q_far (p := ⟨gb326,1,none⟩) (Kd.Q_far (p := ⟨gb326,0,none⟩) (Kd.Q_types HO_261002.out BK326.out (by decide)) (fun _ h=>h.2) (.int .i64 t316)) (fun _ h=>h.2) (.int .i64 t317)) (fun _ h=>h.2) (.slice Ao168 t318.length co168)) (fun _ h=>h.2) (.int .i64 t321)) (fun _ h=>h.2) (.slice Ao171 t322.length co171)) (fun _ h_ => h_.1)))); (case side6 => exact (Kd.Q_reads' HO_261002.out).2.1); (case side7 => refine (zI (e := 9) (base := w.heap.size) (ok := fun k_ => (some k_ ≠ (v307 : Value).ownBlock ∧ (some k_ ≠ (v311 : Value).ownBlock ∧ (some k_ ≠ (.slice Ao168 t318.length co168 : Value).ownBlock ∧ (some k_ ≠ (.slice Ao171 t322.length co171 : Value).ownBlock ∧ (some k_ ≠ (.slice Ao43 t252.length co43 : Value).ownBlock ∧ (some k_ ≠ (.slice Ao56 t297.length co56 : Value).ownBlock ∧ (some k_ ≠ (.slice Ao57 t298.length co57 : Value).ownBlock ∧ (some k_ ≠ (.slice Ao66 t276.length co66 : Value).ownBlock ∧ some k_ ≠ (.slice Ao69 t280.length co69 : Value).ownBlock))))))))) (n := t256.length) (c := co46) ?_).2.2; exact (rrA19c (zC (zB (p := ⟨gb326,4,none⟩) (zB (p := ⟨gb326,3,none⟩) (zB (p := ⟨gb326,2,none⟩) (zB (p := ⟨gb326,1,none⟩) (zB (p := ⟨gb326,0,none⟩) (zH HO_261004.out BK326.out (by decide)) (fun _ h=>h.2) (.int .i64 t316)) (fun _ h=>h.2) (.int .i64 t317)) (fun _ h=>h.2) (.slice Ao168 t318.length co168)) (fun _ h=>h.2) (.int .i64 t321)) (fun _ h=>h.2) (.slice Ao171 t322.length co171)) (fun _ h_ => h_.1)))); (case side8 => exact (zI HO_261004.out).2.1); rintro e w198 ⟨rfl,hb⟩; refine ⟨_,rfl,?_⟩; have n0_ := zA (Kd.Q_below (by (with_reducible repeat (first|apply Kd.Q_alloc|apply Kd.Q_drewN|apply Kd.Q_drew)); exact (Kd.Q_mono (Kd.Q_far (p := ⟨gb326,4,none⟩) (Kd.Q_far (p := ⟨gb326,3,none⟩) (Kd.Q_far (p := ⟨gb326,2,none⟩) (Kd.Q_far (p := ⟨gb326,1,none⟩) (Kd.Q_far (p := ⟨gb326,0,none⟩) (Kd.Q_types HO_261002.out BK326.out (by decide)) (fun _ h=>h.2) (.int .i64 t316)) (fun _ h=>h.2) (.int .i64 t317)) (fun _ h=>h.2) (.slice Ao168 t318.length co168)) (fun _ h=>h.2) (.int .i64 t321)) (fun _ h=>h.2) (.slice Ao171 t322.length co171)) (fun _ h_ => h_.1))) hb); have n1_ := zA (zD (rrA19c (zC (zB (p := ⟨gb326,4,none⟩) (zB (p := ⟨gb326,3,none⟩) (zB (p := ⟨gb326,2,none⟩) (zB (p := ⟨gb326,1,none⟩) (zB (p := ⟨gb326,0,none⟩) (zH HO_261004.out BK326.out (by decide)) (fun _ h=>h.2) (.int .i64 t316)) (fun _ h=>h.2) (.int .i64 t317)) (fun _ h=>h.2) (.slice Ao168 t318.length co168)) (fun _ h=>h.2) (.int .i64 t321)) (fun _ h=>h.2) (.slice Ao171 t322.length co171)) (fun _ h_ => h_.1))) hb); have n2_ := zA (Kd.Q_below (by (with_reducible repeat (first|apply Kd.Q_alloc|apply Kd.Q_drewN|apply Kd.Q_drew)); exact (Kd.Q_mono (Kd.Q_far (p := ⟨gb326,4,none⟩) (Kd.Q_far (p := ⟨gb326,3,none⟩) (Kd.Q_far (p := ⟨gb326,2,none⟩) (Kd.Q_far (p := ⟨gb326,1,none⟩) (Kd.Q_far (p := ⟨gb326,0,none⟩) (Kd.Q_types HO_271002.out BK326.out (by decide)) (fun _ h=>h.2) (.int .i64 t316)) (fun _ h=>h.2) (.int .i64 t317)) (fun _ h=>h.2) (.slice Ao168 t318.length co168)) (fun _ h=>h.2) (.int .i64 t321)) (fun _ h=>h.2) (.slice Ao171 t322.length co171)) (fun _ h_ => h_.1))) hb); have n3_ := zA (zD (rrA19c (zC (zB (p := ⟨gb326,4,none⟩) (zB (p := ⟨gb326,3,none⟩) (zB (p := ⟨gb326,2,none⟩) (zB (p := ⟨gb326,1,none⟩) (zB (p := ⟨gb326,0,none⟩) (zH HO_271004.out BK326.out (by decide)) (fun _ h=>h.2) (.int .i64 t316)) (fun _ h=>h.2) (.int .i64 t317)) (fun _ h=>h.2) (.slice Ao168 t318.length co168)) (fun _ h=>h.2) (.int .i64 t321)) (fun _ h=>h.2) (.slice Ao171 t322.length co171)) (fun _ h_ => h_.1))) hb); have n4_ := zA (Kd.Q_below (by (with_reducible repeat (first|apply Kd.Q_alloc|apply Kd.Q_drewN|apply Kd.Q_drew)); exact (Kd.Q_mono (Kd.Q_far (p := ⟨gb326,4,none⟩) (Kd.Q_far (p := ⟨gb326,3,none⟩) (Kd.Q_far (p := ⟨gb326,2,none⟩) (Kd.Q_far (p := ⟨gb326,1,none⟩) (Kd.Q_far (p := ⟨gb326,0,none⟩) (Kd.Q_types HO_285002.out BK326.out (by decide)) (fun _ h=>h.2) (.int .i64 t316)) (fun _ h=>h.2) (.int .i64 t317)) (fun _ h=>h.2) (.slice Ao168 t318.length co168)) (fun _ h=>h.2) (.int .i64 t321)) (fun _ h=>h.2) (.slice Ao171 t322.length co171)) (fun _ h_ => h_.1))) hb); have n5_ := zA (zD (rrA19c (zC (zB (p := ⟨gb326,4,none⟩) (zB (p := ⟨gb326,3,none⟩) (zB (p := ⟨gb326,2,none⟩) (zB (p := ⟨gb326,1,none⟩) (zB (p := ⟨gb326,0,none⟩) (zH HO_285004.out BK326.out (by decide)) (fun _ h=>h.2) (.int .i64 t316)) (fun _ h=>h.2) (.int .i64 t317)) (fun _ h=>h.2) (.slice Ao168 t318.length co168)) (fun _ h=>h.2) (.int .i64 t321)) (fun _ h=>h.2) (.slice Ao171 t322.length co171)) (fun _ h_ => h_.1))) hb); have n6_ := zA (zD (rrA19c (zC (zB (p := ⟨gb326,4,none⟩) (zB (p := ⟨gb326,3,none⟩) (zB (p := ⟨gb326,2,none⟩) (zB (p := ⟨gb326,1,none⟩) (zB (p := ⟨gb326,0,none⟩) (zH HO308.out BK326.out (by decide)) (fun _ h=>h.2) (.int .i64 t316)) (fun _ h=>h.2) (.int .i64 t317)) (fun _ h=>h.2) (.slice Ao168 t318.length co168)) (fun _ h=>h.2) (.int .i64 t321)) (fun _ h=>h.2) (.slice Ao171 t322.length co171)) (fun _ h_ => h_.1))) hb); have n7_ := zA (zD (rrA19c (zC (zB (p := ⟨gb326,4,none⟩) (zB (p := ⟨gb326,3,none⟩) (zB (p := ⟨gb326,2,none⟩) (zB (p := ⟨gb326,1,none⟩) (zB (p := ⟨gb326,0,none⟩) (zH HO312.out BK326.out (by decide)) (fun _ h=>h.2) (.int .i64 t316)) (fun _ h=>h.2) (.int .i64 t317)) (fun _ h=>h.2) (.slice Ao168 t318.length co168)) (fun _ h=>h.2) (.int .i64 t321)) (fun _ h=>h.2) (.slice Ao171 t322.length co171)) (fun _ h_ => h_.1))) hb); have n8_ := zA (Kd.Q_below (by (with_reducible repeat (first|apply Kd.Q_alloc|apply Kd.Q_drewN|apply Kd.Q_drew)); exact (Kd.Q_mono (Kd.Q_far (p := ⟨gb326,4,none⟩) (Kd.Q_far (p := ⟨gb326,3,none⟩) (Kd.Q_far (p := ⟨gb326,2,none⟩) (Kd.Q_far (p := ⟨gb326,1,none⟩) (Kd.Q_far (p := ⟨gb326,0,none⟩) (Kd.Q_types HO320.out BK326.out (by decide)) (fun _ h=>h.2) (.int .i64 t316)) (fun _ h=>h.2) (.int .i64 t317)) (fun _ h=>h.2) (.slice Ao168 t318.length co168)) (fun _ h=>h.2) (.int .i64 t321)) (fun _ h=>h.2) (.slice Ao171 t322.length co171)) (fun _ h_ => h_.1))) hb); have n9_ := zA (zD (rrA19c (zC (zB (p := ⟨gb326,4,none⟩) (zB (p := ⟨gb326,3,none⟩) (zB (p := ⟨gb326,2,none⟩) (zB (p := ⟨gb326,1,none⟩) (zB (p := ⟨gb326,0,none⟩) (zH HO324.out BK326.out (by decide)) (fun _ h=>h.2) (.int .i64 t316)) (fun _ h=>h.2) (.int .i64 t317)) (fun _ h=>h.2) (.slice Ao168 t318.length co168)) (fun _ h=>h.2) (.int .i64 t321)) (fun _ h=>h.2) (.slice Ao171 t322.length co171)) (fun _ h_ => h_.1))) hb); have n10_ := zA (zV (g := gb234) (o := .cells #[.int .i64 a0_0,.int .i64 a0_1,.slice A0_2 l0_2.length c0_2,.int .i64 a0_3,.slice A0_4 l0_4.length c0_4] 24 (0,0)) (by (with_reducible repeat (first|refine zR ?_ _|refine zT ?_|refine zS ?_ _)); refine zX ?_ NB234_326.out _; (with_reducible repeat (first|refine zR ?_ _|refine zT ?_|refine zS ?_ _)); refine zX ?_ NB234_326.out _; (with_reducible repeat (first|refine zR ?_ _|refine zT ?_|refine zS ?_ _)); refine zX ?_ NB234_326.out _; (with_reducible repeat (first|refine zR ?_ _|refine zT ?_|refine zS ?_ _)); refine zX ?_ NB234_326.out _; (with_reducible repeat (first|refine zR ?_ _|refine zT ?_|refine zS ?_ _)); refine zX ?_ NB234_326.out _; (with_reducible repeat (first|refine zR ?_ _|refine zT ?_|refine zS ?_ _)); exact BK234.out) hb); have n11_ := zA (zV (g := gb235) (o := .cells #[.int .i64 a1_0,.int .i64 a1_1,.string a1_2] 41 (0,0)) (by (with_reducible repeat (first|refine zR ?_ _|refine zT ?_|refine zS ?_ _)); refine zX ?_ NB235_326.out _; (with_reducible repeat (first|refine zR ?_ _|refine zT ?_|refine zS ?_ _)); refine zX ?_ NB235_326.out _; (with_reducible repeat (first|refine zR ?_ _|refine zT ?_|refine zS ?_ _)); refine zX ?_ NB235_326.out _; (with_reducible repeat (first|refine zR ?_ _|refine zT ?_|refine zS ?_ _)); refine zX ?_ NB235_326.out _; (with_reducible repeat (first|refine zR ?_ _|refine zT ?_|refine zS ?_ _)); refine zX ?_ NB235_326.out _; (with_reducible repeat (first|refine zR ?_ _|refine zT ?_|refine zS ?_ _)); exact BK235.out) hb); have n12_ := zA (zV (g := gb260) (o := .cells #[.int .i64 t250,.int .i64 t251,.slice Ao43 t252.length co43,.int .i64 t255,.slice Ao46 t256.length co46] 26 (0,0)) (by (with_reducible repeat (first|refine zR ?_ _|refine zT ?_|refine zS ?_ _)); refine zX ?_ NB260_326.out _; (with_reducible repeat (first|refine zR ?_ _|refine zT ?_|refine zS ?_ _)); refine zX ?_ NB260_326.out _; (with_reducible repeat (first|refine zR ?_ _|refine zT ?_|refine zS ?_ _)); refine zX ?_ NB260_326.out _; (with_reducible repeat (first|refine zR ?_ _|refine zT ?_|refine zS ?_ _)); refine zX ?_ NB260_326.out _; (with_reducible repeat (first|refine zR ?_ _|refine zT ?_|refine zS ?_ _)); refine zX ?_ NB260_326.out _; (with_reducible repeat (first|refine zR ?_ _|refine zT ?_|refine zS ?_ _)); exact BK260.out) hb); have n13_ := zA (zV (g := gb270) (o := .cells #[.int .i64 t261,.int .i64 t262,.slice Ao56 t297.length co56,.int .i64 t266,.slice Ao57 t298.length co57] 26 (0,0)) (by (with_reducible repeat (first|refine zR ?_ _|refine zT ?_|refine zS ?_ _)); refine zX ?_ NB270_326.out _; (with_reducible repeat (first|refine zR ?_ _|refine zT ?_|refine zS ?_ _)); refine zX ?_ NB270_326.out _; (with_reducible repeat (first|refine zR ?_ _|refine zT ?_|refine zS ?_ _)); refine zX ?_ NB270_326.out _; (with_reducible repeat (first|refine zR ?_ _|refine zT ?_|refine zS ?_ _)); refine zX ?_ NB270_326.out _; (with_reducible repeat (first|refine zR ?_ _|refine zT ?_|refine zS ?_ _)); refine zX ?_ NB270_326.out _; (with_reducible repeat (first|refine zR ?_ _|refine zT ?_|refine zS ?_ _)); exact BK270.out) hb); have n14_ := zA (zV (g := gb284) (o := .cells #[.int .i64 t274,.int .i64 t275,.slice Ao66 t276.length co66,.int .i64 t279,.slice Ao69 t280.length co69] 26 (0,0)) (by (with_reducible repeat (first|refine zR ?_ _|refine zT ?_|refine zS ?_ _)); refine zX ?_ NB284_326.out _; (with_reducible repeat (first|refine zR ?_ _|refine zT ?_|refine zS ?_ _)); refine zX ?_ NB284_326.out _; (with_reducible repeat (first|refine zR ?_ _|refine zT ?_|refine zS ?_ _)); refine zX ?_ NB284_326.out _; (with_reducible repeat (first|refine zR ?_ _|refine zT ?_|refine zS ?_ _)); refine zX ?_ NB284_326.out _; (with_reducible repeat (first|refine zR ?_ _|refine zT ?_|refine zS ?_ _)); refine zX ?_ NB284_326.out _; (with_reducible repeat (first|refine zR ?_ _|refine zT ?_|refine zS ?_ _)); exact BK284.out) hb); have n15_ := zA (zV (g := gb326) (o := .cells #[.int .i64 t316,.int .i64 t317,.slice Ao168 t318.length co168,.int .i64 t321,.slice Ao171 t322.length co171] 26 (0,0)) (by (with_reducible repeat (first|refine zR ?_ _|refine zT ?_|refine zS ?_ _)); refine blk_put (cs := #[.int .i64 t316,.int .i64 t317,.slice Ao168 t318.length co168,.int .i64 t321,.slice none 0 0]) ?_ 4 _ rfl; (with_reducible repeat (first|refine zR ?_ _|refine zT ?_|refine zS ?_ _)); refine blk_put (cs := #[.int .i64 t316,.int .i64 t317,.slice Ao168 t318.length co168,.int .i64 0,.slice none 0 0]) ?_ 3 _ rfl; (with_reducible repeat (first|refine zR ?_ _|refine zT ?_|refine zS ?_ _)); refine blk_put (cs := #[.int .i64 t316,.int .i64 t317,.slice none 0 0,.int .i64 0,.slice none 0 0]) ?_ 2 _ rfl; (with_reducible repeat (first|refine zR ?_ _|refine zT ?_|refine zS ?_ _)); refine blk_put (cs := #[.int .i64 t316,.int .i64 0,.slice none 0 0,.int .i64 0,.slice none 0 0]) ?_ 1 _ rfl; (with_reducible repeat (first|refine zR ?_ _|refine zT ?_|refine zS ?_ _)); refine blk_put (cs := #[.int .i64 0,.int .i64 0,.slice none 0 0,.int .i64 0,.slice none 0 0]) ?_ 0 _ rfl; (with_reducible repeat (first|refine zR ?_ _|refine zT ?_|refine zS ?_ _)); exact BK326.out) hb); have n16_ := zA (zZ (by repeat (first|(with_reducible first|exact HB.out|apply zO|apply zQ|apply zP|refine zN ?_ GE234.out|refine zN ?_ GE235.out|refine zN ?_ GE260.out|refine zN ?_ GE270.out|refine zN ?_ GE284.out|refine zN ?_ GE326.out)|exact HB.out)) hb); clear HO_261002 HO_261004 HO_271002 HO_271004 HO_285002 HO_285004 HO308 HO312 HO320 HO324 BK234 BK235 BK260 BK270 BK284 BK326 HB; have HO_261002 := n0_; have HO_261004 := n1_; have HO_271002 := n2_; have HO_271004 := n3_; have HO_285002 := n4_; have HO_285004 := n5_; have HO308 := n6_; have HO312 := n7_; have HO320 := n8_; have HO324 := n9_; have BK234 := n10_; have BK235 := n11_; have BK260 := n12_; have BK270 := n13_; have BK284 := n14_; have BK326 := n15_; have HB := n16_; clear n0_ n1_ n2_ n3_ n4_ n5_ n6_ n7_ n8_ n9_ n10_ n11_ n12_ n13_ n14_ n15_ n16_; (try clear hb); (try clear hb2); (try clear hk); (try clear hi)))
               go_meet
               case rel => exact ⟨_,(true),(by first|rfl|(simp; done)|(simp [*]; done)),H',⟨by have := HJ24.out; have := HJ97.out; first|omega|exact Nat.le_refl _⟩,⟨by (try simp only [hl271002_97]); (try simp only [hl271004_97]); (with_reducible repeat (first|apply Kd.Q_alloc|apply Kd.Q_drewN|apply Kd.Q_drew)); exact Kd.Q_mono HO_261002.out (fun _ hk => ⟨hk.2.2.2.2.1,⟨hk.2.2.2.2.2.1,⟨hk.2.2.2.2.2.2.1,⟨hk.2.2.2.2.2.2.2.1,⟨hk.2.2.2.2.2.2.2.2,⟨hk.2.2.1,hk.2.2.2.1⟩⟩⟩⟩⟩⟩)⟩,⟨by (try simp only [hl271002_97]); (try simp only [hl271004_97]); (with_reducible repeat (first|apply zJ|apply zK|apply zL)); exact zC HO_261004.out (fun _ hk => ⟨hk.2.2.2.2.1,⟨hk.2.2.2.2.2.1,⟨hk.2.2.2.2.2.2.1,⟨hk.2.2.2.2.2.2.2.1,⟨hk.2.2.2.2.2.2.2.2,⟨hk.2.2.1,hk.2.2.2.1⟩⟩⟩⟩⟩⟩)⟩,⟨by (try simp only [hl271002_97]); (try simp only [hl271004_97]); (with_reducible repeat (first|apply Kd.Q_alloc|apply Kd.Q_drewN|apply Kd.Q_drew)); exact Kd.Q_mono HO_271002.out (fun _ hk => ⟨hk.2.2.2.2.1,⟨hk.2.2.2.2.2.1,⟨hk.2.2.2.2.2.2.1,⟨hk.2.2.2.2.2.2.2.1,⟨hk.2.2.2.2.2.2.2.2,⟨hk.2.2.1,hk.2.2.2.1⟩⟩⟩⟩⟩⟩)⟩,⟨by (try simp only [hl271002_97]); (try simp only [hl271004_97]); (with_reducible repeat (first|apply zJ|apply zK|apply zL)); exact zC HO_271004.out (fun _ hk => ⟨hk.2.2.2.2.1,⟨hk.2.2.2.2.2.1,⟨hk.2.2.2.2.2.2.1,⟨hk.2.2.2.2.2.2.2.1,⟨hk.2.2.2.2.2.2.2.2,⟨hk.2.2.1,hk.2.2.2.1⟩⟩⟩⟩⟩⟩)⟩,⟨by (try simp only [hl271002_97]); (try simp only [hl271004_97]); (with_reducible repeat (first|apply Kd.Q_alloc|apply Kd.Q_drewN|apply Kd.Q_drew)); exact Kd.Q_mono HO_285002.out (fun _ hk => ⟨hk.2.2.2.2.1,⟨hk.2.2.2.2.2.1,⟨hk.2.2.2.2.2.2.1,⟨hk.2.2.2.2.2.2.2.1,⟨hk.2.2.2.2.2.2.2.2,⟨hk.2.2.1,hk.2.2.2.1⟩⟩⟩⟩⟩⟩)⟩,⟨by (try simp only [hl271002_97]); (try simp only [hl271004_97]); (with_reducible repeat (first|apply zJ|apply zK|apply zL)); exact zC HO_285004.out (fun _ hk => ⟨hk.2.2.2.2.1,⟨hk.2.2.2.2.2.1,⟨hk.2.2.2.2.2.2.1,⟨hk.2.2.2.2.2.2.2.1,⟨hk.2.2.2.2.2.2.2.2,⟨hk.2.2.1,hk.2.2.2.1⟩⟩⟩⟩⟩⟩)⟩,⟨by (try simp only [hl271002_97]); (try simp only [hl271004_97]); (with_reducible repeat (first|apply Kd.Q_alloc|apply Kd.Q_drewN|apply Kd.Q_drew)); exact Kd.Q_mono HO320.out (fun _ hk => ⟨hk.2.2.2.1,⟨hk.2.2.2.2.1,⟨hk.2.2.2.2.2.1,⟨hk.2.2.2.2.2.2.1,⟨hk.2.2.2.2.2.2.2.1,⟨hk.2.2.2.2.2.2.2.2,hk.2.2.1⟩⟩⟩⟩⟩⟩)⟩,⟨by (try simp only [hl271002_97]); (try simp only [hl271004_97]); (with_reducible repeat (first|apply zJ|apply zK|apply zL)); exact zC HO324.out (fun _ hk => ⟨hk.2.2.2.1,⟨hk.2.2.2.2.1,⟨hk.2.2.2.2.2.1,⟨hk.2.2.2.2.2.2.1,⟨hk.2.2.2.2.2.2.2.1,⟨hk.2.2.2.2.2.2.2.2,hk.2.2.1⟩⟩⟩⟩⟩⟩)⟩,⟨by (try simp only [hl271002_97]); (try simp only [hl271004_97]); (with_reducible repeat (first|refine zR ?_ _|refine zT ?_|refine zS ?_ _)); exact BK234.out⟩,⟨by (try simp only [hl271002_97]); (try simp only [hl271004_97]); (with_reducible repeat (first|refine zR ?_ _|refine zT ?_|refine zS ?_ _)); exact BK235.out⟩,⟨by (try simp only [hl271002_97]); (try simp only [hl271004_97]); (with_reducible repeat (first|refine zR ?_ _|refine zT ?_|refine zS ?_ _)); exact BK260.out⟩,⟨by (try simp only [hl271002_97]); (try simp only [hl271004_97]); (with_reducible repeat (first|refine zR ?_ _|refine zT ?_|refine zS ?_ _)); exact BK270.out⟩,⟨by (try simp only [hl271002_97]); (try simp only [hl271004_97]); (with_reducible repeat (first|refine zR ?_ _|refine zT ?_|refine zS ?_ _)); exact BK284.out⟩,⟨by (try simp only [hl271002_97]); (try simp only [hl271004_97]); (with_reducible repeat (first|refine zR ?_ _|refine zT ?_|refine zS ?_ _)); exact BK326.out⟩,⟨by repeat (first|(with_reducible first|exact HB.out|apply zO|apply zQ|apply zP|refine zN ?_ GE234.out|refine zN ?_ GE235.out|refine zN ?_ GE260.out|refine zN ?_ GE270.out|refine zN ?_ GE284.out|refine zN ?_ GE326.out)|exact HB.out)⟩⟩
             case rest =>
              clear HC149; try clear c1; try clear c2; try clear p2; try clear c13; try clear c15; try clear c17; try clear c18; try clear c19; try clear c20; try clear c25; try clear c174; try clear c175; try clear c176; try clear c177; try clear c178; try clear c179; try clear c181; try clear c182; try clear c183; try clear c184; try clear c187; try clear c188; try clear c189; try clear c190; try clear c191; try clear c193; try clear c194; try clear c195; try clear c196; try clear hcz180_0; try clear hcz180_1; try clear hcz180_2; try clear hcz180_3; try clear hcz180_4; try clear hcz185_0; try clear hcz185_1; try clear hcz185_2; try clear hcz185_3; try clear hcz185_4; try clear hcz192_0; try clear hcz192_1; try clear hcz192_2; try clear hcz192_3; try clear hcz192_4; try clear hcz197_0; try clear hcz197_1; try clear hcz197_2; try clear hcz197_3; try clear hcz197_4; try clear hfz180_0; try clear hfz180_1; try clear hfz180_2; try clear hfz180_3; try clear hfz180_4; try clear hfz185_0; try clear hfz185_1; try clear hfz185_2; try clear hfz185_3; try clear hfz185_4; try clear hfz192_0; try clear hfz192_1; try clear hfz192_2; try clear hfz192_3; try clear hfz192_4; try clear hfz197_0; try clear hfz197_1; try clear hfz197_2; try clear hfz197_3; try clear hfz197_4
              obtain ⟨kq,x100_148,rfl,HA,HJ148,HO_261002,HO_261004,HO_271002,HO_271004,HO_285002,HO_285004,HO_327002,HO_327004,BK234,BK235,BK260,BK270,BK284,BK326,HB⟩ := hcut
              have hl285002_148 := (Kd.Q_reads' HO_285002.out).1
              rw [hl285002_148] at HO_285002
              (try simp only [hl285002_148])
              (try simp only [hl285002_148] at BK234)
              (try simp only [hl285002_148] at BK235)
              (try simp only [hl285002_148] at BK260)
              (try simp only [hl285002_148] at BK270)
              (try simp only [hl285002_148] at BK284)
              (try simp only [hl285002_148] at BK326)
              (try simp only [hl285002_148] at HO_261002)
              (try simp only [hl285002_148] at HO_261004)
              (try simp only [hl285002_148] at HO_271002)
              (try simp only [hl285002_148] at HO_271004)
              (try simp only [hl285002_148] at HO_285004)
              (try simp only [hl285002_148] at HO_327002)
              (try simp only [hl285002_148] at HO_327004)
              have hl285004_148 := (zI HO_285004.out).1
              rw [hl285004_148] at HO_285004
              (try simp only [hl285004_148])
              (try simp only [hl285004_148] at BK234)
              (try simp only [hl285004_148] at BK235)
              (try simp only [hl285004_148] at BK260)
              (try simp only [hl285004_148] at BK270)
              (try simp only [hl285004_148] at BK284)
              (try simp only [hl285004_148] at BK326)
              (try simp only [hl285004_148] at HO_261002)
              (try simp only [hl285004_148] at HO_261004)
              (try simp only [hl285004_148] at HO_271002)
              (try simp only [hl285004_148] at HO_271004)
              (try simp only [hl285004_148] at HO_285002)
              (try simp only [hl285004_148] at HO_327002)
              (try simp only [hl285004_148] at HO_327004)
              cases kq with
              | zero => exact absurd HA.out (by simp [laws_FnExactReceive.j2])
              | succ kj148 =>
               have H := HA.out
               clear HA
               simp only [laws_FnExactReceive.j2] at H
               by_cases c199 : x100_148 = true
               ·
                subst c199
                have H1 : (some false) = some r := by rw [if_pos rfl] at H; exact H
                clear H; have H := H1; clear H1
                obtain rfl := Option.some.inj H
                go_wp2
                go_ret
                exact ⟨by first|rfl|(simp [errW_none,errW_some] <;> rfl)|(simp [*,errW_none,errW_some] <;> rfl),by repeat (first|(with_reducible first|exact HB.out|apply zO|apply zQ|apply zP|refine zN ?_ GE234.out|refine zN ?_ GE235.out|refine zN ?_ GE260.out|refine zN ?_ GE270.out|refine zN ?_ GE284.out|refine zN ?_ GE326.out)|exact HB.out)⟩
               ·
                replace c199 := Bool.eq_false_iff.mpr c199
                subst c199
                have H1 : ((laws_heldEnd.f kj148 t274 t275 t301 t279 t302 1).bind fun t328 => (if t328 < 0 then (some false) else (if t328 = t300 then (some true) else (some false)))) = some r := by rw [if_neg (show ¬ (false = true) by decide)] at H; exact H
                clear H; have H := H1; clear H1
                replace H := Option.bind_eq_some_iff.mp H
                obtain ⟨t328,A2000,H⟩ := H
                replace H : (if t328 < 0 then (some false) else (if t328 = t300 then (some true) else (some false))) = some r := H
                have A200 := zA A2000
                clear A2000
                by_cases c201 : t328 < 0
                ·
                 rw [if_pos c201] at H
                 have c201b0 : decide (t328 < 0) = true := decide_eq_true c201
                 clear c201
                 obtain rfl := Option.some.inj H
                 have hnb202 := NB284_234.out
                 have hnc202 := NB234_284.out
                 have hnb203 := NB284_235.out
                 have hnc203 := NB235_284.out
                 have hnb204 := NB284_260.out
                 have hnc204 := NB260_284.out
                 have hnb205 := NB284_270.out
                 have hnc205 := NB270_284.out
                 have hnb206 := NB284_326.out
                 have hnc206 := NB326_284.out
                 have hcz207_0 : wc.cell? ⟨gb284,0,none⟩ = some (.int .i64 t274) := (zW BK284.out 0).trans rfl
                 have hcz207_1 : wc.cell? ⟨gb284,1,none⟩ = some (.int .i64 t275) := (zW BK284.out 1).trans rfl
                 have hcz207_2 : wc.cell? ⟨gb284,2,none⟩ = some (.slice Ao66 t301.length co66) := (zW BK284.out 2).trans rfl
                 have hcz207_3 : wc.cell? ⟨gb284,3,none⟩ = some (.int .i64 t279) := (zW BK284.out 3).trans rfl
                 have hcz207_4 : wc.cell? ⟨gb284,4,none⟩ = some (.slice Ao69 t302.length co69) := (zW BK284.out 4).trans rfl
                 have hfz207_0 := zU BK284.out 0
                 have hfz207_1 := zU BK284.out 1
                 have hfz207_2 := zU BK284.out 2
                 have hfz207_3 := zU BK284.out 3
                 have hfz207_4 := zU BK284.out 4
                 go_wp2_with (first | ((with_reducible refine gate_callee (f := 17) rfl ?_); refine goesL_ (some 103) rfl rfl Try.func17 (by kernel_rfl) rfl #[.agg #[.int .i64 t274,.int .i64 t275,.slice Ao66 t301.length co66,.int .i64 t279,.slice Ao69 t302.length co69],.int .i64 1] rfl (by (try simp only [List.map_toArray,List.map_cons,List.map_nil]); first | done|rfl|(simp only [List.length_drop,List.length_take]; rfl)) ?_; (with_reducible refine (laws_heldEnd.calls kj148 t274 t275 _ _ t301 t279 _ _ t302 1 t328 _ ?side1 ?side2 ?side3 ?side4 A200.out).mono ?_); (case side1 => repeat (first|exact (Kd.Q_reads' HO_285002.out).2.2|(with_reducible refine Kd.C_alloc ?_ _)|(with_reducible refine Kd.C_drewN ?_ _)|(with_reducible refine Kd.C_drew ?_))); (case side2 => exact (Kd.Q_reads' HO_285002.out).2.1); (case side3 => repeat (first|exact (zI HO_285004.out).2.2|(with_reducible refine Kd.C_alloc ?_ _)|(with_reducible refine Kd.C_drewN ?_ _)|(with_reducible refine Kd.C_drew ?_))); (case side4 => exact (zI HO_285004.out).2.1); rintro e w208 ⟨rfl,hb⟩; refine ⟨_,rfl,?_⟩; have n0_ := zA (Kd.Q_below (by (with_reducible repeat (first|apply Kd.Q_alloc|apply Kd.Q_drewN|apply Kd.Q_drew)); exact HO_261002.out) hb); have n1_ := zA (zD (rrA19c HO_261004.out) hb); have n2_ := zA (Kd.Q_below (by (with_reducible repeat (first|apply Kd.Q_alloc|apply Kd.Q_drewN|apply Kd.Q_drew)); exact HO_271002.out) hb); have n3_ := zA (zD (rrA19c HO_271004.out) hb); have n4_ := zA (Kd.Q_below (by (with_reducible repeat (first|apply Kd.Q_alloc|apply Kd.Q_drewN|apply Kd.Q_drew)); exact HO_285002.out) hb); have n5_ := zA (zD (rrA19c HO_285004.out) hb); have n6_ := zA (Kd.Q_below (by (with_reducible repeat (first|apply Kd.Q_alloc|apply Kd.Q_drewN|apply Kd.Q_drew)); exact HO_327002.out) hb); have n7_ := zA (zD (rrA19c HO_327004.out) hb); have n8_ := zA (zV (g := gb234) (o := .cells #[.int .i64 a0_0,.int .i64 a0_1,.slice A0_2 l0_2.length c0_2,.int .i64 a0_3,.slice A0_4 l0_4.length c0_4] 24 (0,0)) (rrB19c BK234.out) hb); have n9_ := zA (zV (g := gb235) (o := .cells #[.int .i64 a1_0,.int .i64 a1_1,.string a1_2] 41 (0,0)) (rrB19c BK235.out) hb); have n10_ := zA (zV (g := gb260) (o := .cells #[.int .i64 t250,.int .i64 t251,.slice Ao43 t252.length co43,.int .i64 t255,.slice Ao46 t256.length co46] 26 (0,0)) (rrB19c BK260.out) hb); have n11_ := zA (zV (g := gb270) (o := .cells #[.int .i64 t261,.int .i64 t262,.slice Ao56 t297.length co56,.int .i64 t266,.slice Ao57 t298.length co57] 26 (0,0)) (rrB19c BK270.out) hb); have n12_ := zA (zV (g := gb284) (o := .cells #[.int .i64 t274,.int .i64 t275,.slice Ao66 t301.length co66,.int .i64 t279,.slice Ao69 t302.length co69] 26 (0,0)) (rrB19c BK284.out) hb); have n13_ := zA (zV (g := gb326) (o := .cells #[.int .i64 t316,.int .i64 t317,.slice Ao168 t318.length co168,.int .i64 t321,.slice Ao171 t322.length co171] 26 (0,0)) (rrB19c BK326.out) hb); have n14_ := zA (zZ (by repeat (first|(with_reducible first|exact HB.out|apply zO|apply zQ|apply zP|refine zN ?_ GE234.out|refine zN ?_ GE235.out|refine zN ?_ GE260.out|refine zN ?_ GE270.out|refine zN ?_ GE284.out|refine zN ?_ GE326.out)|exact HB.out)) hb); clear HO_261002 HO_261004 HO_271002 HO_271004 HO_285002 HO_285004 HO_327002 HO_327004 BK234 BK235 BK260 BK270 BK284 BK326 HB; have HO_261002 := n0_; have HO_261004 := n1_; have HO_271002 := n2_; have HO_271004 := n3_; have HO_285002 := n4_; have HO_285004 := n5_; have HO_327002 := n6_; have HO_327004 := n7_; have BK234 := n8_; have BK235 := n9_; have BK260 := n10_; have BK270 := n11_; have BK284 := n12_; have BK326 := n13_; have HB := n14_; clear n0_ n1_ n2_ n3_ n4_ n5_ n6_ n7_ n8_ n9_ n10_ n11_ n12_ n13_ n14_; (try clear hb); (try clear hb2); (try clear hk); (try clear hi)))
                 go_ret
                 exact ⟨by first|rfl|(simp [errW_none,errW_some] <;> rfl)|(simp [*,errW_none,errW_some] <;> rfl),by repeat (first|(with_reducible first|exact HB.out|apply zO|apply zQ|apply zP|refine zN ?_ GE234.out|refine zN ?_ GE235.out|refine zN ?_ GE260.out|refine zN ?_ GE270.out|refine zN ?_ GE284.out|refine zN ?_ GE326.out)|exact HB.out)⟩
                ·
                 rw [if_neg c201] at H
                 have c201b0 : decide (t328 < 0) = false := decide_eq_false c201
                 clear c201
                 by_cases c209 : t328 = t300
                 ·
                  rw [if_pos c209] at H
                  have c209b0 : (t328 == t300) = true := beq_iff_eq.mpr c209
                  have c209b1 : (t328 != t300) = false := bne_eq_false_iff_eq.mpr c209
                  clear c209
                  obtain rfl := Option.some.inj H
                  have hnb210 := NB284_234.out
                  have hnc210 := NB234_284.out
                  have hnb211 := NB284_235.out
                  have hnc211 := NB235_284.out
                  have hnb212 := NB284_260.out
                  have hnc212 := NB260_284.out
                  have hnb213 := NB284_270.out
                  have hnc213 := NB270_284.out
                  have hnb214 := NB284_326.out
                  have hnc214 := NB326_284.out
                  have hcz215_0 : wc.cell? ⟨gb284,0,none⟩ = some (.int .i64 t274) := (zW BK284.out 0).trans rfl
                  have hcz215_1 : wc.cell? ⟨gb284,1,none⟩ = some (.int .i64 t275) := (zW BK284.out 1).trans rfl
                  have hcz215_2 : wc.cell? ⟨gb284,2,none⟩ = some (.slice Ao66 t301.length co66) := (zW BK284.out 2).trans rfl
                  have hcz215_3 : wc.cell? ⟨gb284,3,none⟩ = some (.int .i64 t279) := (zW BK284.out 3).trans rfl
                  have hcz215_4 : wc.cell? ⟨gb284,4,none⟩ = some (.slice Ao69 t302.length co69) := (zW BK284.out 4).trans rfl
                  have hfz215_0 := zU BK284.out 0
                  have hfz215_1 := zU BK284.out 1
                  have hfz215_2 := zU BK284.out 2
                  have hfz215_3 := zU BK284.out 3
                  have hfz215_4 := zU BK284.out 4
                  go_wp2_with (first | ((with_reducible refine gate_callee (f := 17) rfl ?_); refine goesL_ (some 103) rfl rfl Try.func17 (by kernel_rfl) rfl #[.agg #[.int .i64 t274,.int .i64 t275,.slice Ao66 t301.length co66,.int .i64 t279,.slice Ao69 t302.length co69],.int .i64 1] rfl (by (try simp only [List.map_toArray,List.map_cons,List.map_nil]); first | done|rfl|(simp only [List.length_drop,List.length_take]; rfl)) ?_; (with_reducible refine (laws_heldEnd.calls kj148 t274 t275 _ _ t301 t279 _ _ t302 1 t328 _ ?side1 ?side2 ?side3 ?side4 A200.out).mono ?_); (case side1 => repeat (first|exact (Kd.Q_reads' HO_285002.out).2.2|(with_reducible refine Kd.C_alloc ?_ _)|(with_reducible refine Kd.C_drewN ?_ _)|(with_reducible refine Kd.C_drew ?_))); (case side2 => exact (Kd.Q_reads' HO_285002.out).2.1); (case side3 => repeat (first|exact (zI HO_285004.out).2.2|(with_reducible refine Kd.C_alloc ?_ _)|(with_reducible refine Kd.C_drewN ?_ _)|(with_reducible refine Kd.C_drew ?_))); (case side4 => exact (zI HO_285004.out).2.1); rintro e w216 ⟨rfl,hb⟩; refine ⟨_,rfl,?_⟩; have n0_ := zA (Kd.Q_below (by (with_reducible repeat (first|apply Kd.Q_alloc|apply Kd.Q_drewN|apply Kd.Q_drew)); exact HO_261002.out) hb); have n1_ := zA (zD (rrA19c HO_261004.out) hb); have n2_ := zA (Kd.Q_below (by (with_reducible repeat (first|apply Kd.Q_alloc|apply Kd.Q_drewN|apply Kd.Q_drew)); exact HO_271002.out) hb); have n3_ := zA (zD (rrA19c HO_271004.out) hb); have n4_ := zA (Kd.Q_below (by (with_reducible repeat (first|apply Kd.Q_alloc|apply Kd.Q_drewN|apply Kd.Q_drew)); exact HO_285002.out) hb); have n5_ := zA (zD (rrA19c HO_285004.out) hb); have n6_ := zA (Kd.Q_below (by (with_reducible repeat (first|apply Kd.Q_alloc|apply Kd.Q_drewN|apply Kd.Q_drew)); exact HO_327002.out) hb); have n7_ := zA (zD (rrA19c HO_327004.out) hb); have n8_ := zA (zV (g := gb234) (o := .cells #[.int .i64 a0_0,.int .i64 a0_1,.slice A0_2 l0_2.length c0_2,.int .i64 a0_3,.slice A0_4 l0_4.length c0_4] 24 (0,0)) (rrB19c BK234.out) hb); have n9_ := zA (zV (g := gb235) (o := .cells #[.int .i64 a1_0,.int .i64 a1_1,.string a1_2] 41 (0,0)) (rrB19c BK235.out) hb); have n10_ := zA (zV (g := gb260) (o := .cells #[.int .i64 t250,.int .i64 t251,.slice Ao43 t252.length co43,.int .i64 t255,.slice Ao46 t256.length co46] 26 (0,0)) (rrB19c BK260.out) hb); have n11_ := zA (zV (g := gb270) (o := .cells #[.int .i64 t261,.int .i64 t262,.slice Ao56 t297.length co56,.int .i64 t266,.slice Ao57 t298.length co57] 26 (0,0)) (rrB19c BK270.out) hb); have n12_ := zA (zV (g := gb284) (o := .cells #[.int .i64 t274,.int .i64 t275,.slice Ao66 t301.length co66,.int .i64 t279,.slice Ao69 t302.length co69] 26 (0,0)) (rrB19c BK284.out) hb); have n13_ := zA (zV (g := gb326) (o := .cells #[.int .i64 t316,.int .i64 t317,.slice Ao168 t318.length co168,.int .i64 t321,.slice Ao171 t322.length co171] 26 (0,0)) (rrB19c BK326.out) hb); have n14_ := zA (zZ (by repeat (first|(with_reducible first|exact HB.out|apply zO|apply zQ|apply zP|refine zN ?_ GE234.out|refine zN ?_ GE235.out|refine zN ?_ GE260.out|refine zN ?_ GE270.out|refine zN ?_ GE284.out|refine zN ?_ GE326.out)|exact HB.out)) hb); clear HO_261002 HO_261004 HO_271002 HO_271004 HO_285002 HO_285004 HO_327002 HO_327004 BK234 BK235 BK260 BK270 BK284 BK326 HB; have HO_261002 := n0_; have HO_261004 := n1_; have HO_271002 := n2_; have HO_271004 := n3_; have HO_285002 := n4_; have HO_285004 := n5_; have HO_327002 := n6_; have HO_327004 := n7_; have BK234 := n8_; have BK235 := n9_; have BK260 := n10_; have BK270 := n11_; have BK284 := n12_; have BK326 := n13_; have HB := n14_; clear n0_ n1_ n2_ n3_ n4_ n5_ n6_ n7_ n8_ n9_ n10_ n11_ n12_ n13_ n14_; (try clear hb); (try clear hb2); (try clear hk); (try clear hi)))
                  go_ret
                  exact ⟨by first|rfl|(simp [errW_none,errW_some] <;> rfl)|(simp [*,errW_none,errW_some] <;> rfl),by repeat (first|(with_reducible first|exact HB.out|apply zO|apply zQ|apply zP|refine zN ?_ GE234.out|refine zN ?_ GE235.out|refine zN ?_ GE260.out|refine zN ?_ GE270.out|refine zN ?_ GE284.out|refine zN ?_ GE326.out)|exact HB.out)⟩
                 ·
                  rw [if_neg c209] at H
                  have c209b0 : (t328 == t300) = false := beq_eq_false_iff_ne.mpr c209
                  have c209b1 : (t328 != t300) = true := bne_iff_ne.mpr c209
                  obtain rfl := Option.some.inj H
                  have hnb217 := NB284_234.out
                  have hnc217 := NB234_284.out
                  have hnb218 := NB284_235.out
                  have hnc218 := NB235_284.out
                  have hnb219 := NB284_260.out
                  have hnc219 := NB260_284.out
                  have hnb220 := NB284_270.out
                  have hnc220 := NB270_284.out
                  have hnb221 := NB284_326.out
                  have hnc221 := NB326_284.out
                  have hcz222_0 : wc.cell? ⟨gb284,0,none⟩ = some (.int .i64 t274) := (zW BK284.out 0).trans rfl
                  have hcz222_1 : wc.cell? ⟨gb284,1,none⟩ = some (.int .i64 t275) := (zW BK284.out 1).trans rfl
                  have hcz222_2 : wc.cell? ⟨gb284,2,none⟩ = some (.slice Ao66 t301.length co66) := (zW BK284.out 2).trans rfl
                  have hcz222_3 : wc.cell? ⟨gb284,3,none⟩ = some (.int .i64 t279) := (zW BK284.out 3).trans rfl
                  have hcz222_4 : wc.cell? ⟨gb284,4,none⟩ = some (.slice Ao69 t302.length co69) := (zW BK284.out 4).trans rfl
                  have hfz222_0 := zU BK284.out 0
                  have hfz222_1 := zU BK284.out 1
                  have hfz222_2 := zU BK284.out 2
                  have hfz222_3 := zU BK284.out 3
                  have hfz222_4 := zU BK284.out 4
                  go_wp2_with (first | ((with_reducible refine gate_callee (f := 17) rfl ?_); refine goesL_ (some 103) rfl rfl Try.func17 (by kernel_rfl) rfl #[.agg #[.int .i64 t274,.int .i64 t275,.slice Ao66 t301.length co66,.int .i64 t279,.slice Ao69 t302.length co69],.int .i64 1] rfl (by (try simp only [List.map_toArray,List.map_cons,List.map_nil]); first | done|rfl|(simp only [List.length_drop,List.length_take]; rfl)) ?_; (with_reducible refine (laws_heldEnd.calls kj148 t274 t275 _ _ t301 t279 _ _ t302 1 t328 _ ?side1 ?side2 ?side3 ?side4 A200.out).mono ?_); (case side1 => repeat (first|exact (Kd.Q_reads' HO_285002.out).2.2|(with_reducible refine Kd.C_alloc ?_ _)|(with_reducible refine Kd.C_drewN ?_ _)|(with_reducible refine Kd.C_drew ?_))); (case side2 => exact (Kd.Q_reads' HO_285002.out).2.1); (case side3 => repeat (first|exact (zI HO_285004.out).2.2|(with_reducible refine Kd.C_alloc ?_ _)|(with_reducible refine Kd.C_drewN ?_ _)|(with_reducible refine Kd.C_drew ?_))); (case side4 => exact (zI HO_285004.out).2.1); rintro e w223 ⟨rfl,hb⟩; refine ⟨_,rfl,?_⟩; have n0_ := zA (Kd.Q_below (by (with_reducible repeat (first|apply Kd.Q_alloc|apply Kd.Q_drewN|apply Kd.Q_drew)); exact HO_261002.out) hb); have n1_ := zA (zD (rrA19c HO_261004.out) hb); have n2_ := zA (Kd.Q_below (by (with_reducible repeat (first|apply Kd.Q_alloc|apply Kd.Q_drewN|apply Kd.Q_drew)); exact HO_271002.out) hb); have n3_ := zA (zD (rrA19c HO_271004.out) hb); have n4_ := zA (Kd.Q_below (by (with_reducible repeat (first|apply Kd.Q_alloc|apply Kd.Q_drewN|apply Kd.Q_drew)); exact HO_285002.out) hb); have n5_ := zA (zD (rrA19c HO_285004.out) hb); have n6_ := zA (Kd.Q_below (by (with_reducible repeat (first|apply Kd.Q_alloc|apply Kd.Q_drewN|apply Kd.Q_drew)); exact HO_327002.out) hb); have n7_ := zA (zD (rrA19c HO_327004.out) hb); have n8_ := zA (zV (g := gb234) (o := .cells #[.int .i64 a0_0,.int .i64 a0_1,.slice A0_2 l0_2.length c0_2,.int .i64 a0_3,.slice A0_4 l0_4.length c0_4] 24 (0,0)) (rrB19c BK234.out) hb); have n9_ := zA (zV (g := gb235) (o := .cells #[.int .i64 a1_0,.int .i64 a1_1,.string a1_2] 41 (0,0)) (rrB19c BK235.out) hb); have n10_ := zA (zV (g := gb260) (o := .cells #[.int .i64 t250,.int .i64 t251,.slice Ao43 t252.length co43,.int .i64 t255,.slice Ao46 t256.length co46] 26 (0,0)) (rrB19c BK260.out) hb); have n11_ := zA (zV (g := gb270) (o := .cells #[.int .i64 t261,.int .i64 t262,.slice Ao56 t297.length co56,.int .i64 t266,.slice Ao57 t298.length co57] 26 (0,0)) (rrB19c BK270.out) hb); have n12_ := zA (zV (g := gb284) (o := .cells #[.int .i64 t274,.int .i64 t275,.slice Ao66 t301.length co66,.int .i64 t279,.slice Ao69 t302.length co69] 26 (0,0)) (rrB19c BK284.out) hb); have n13_ := zA (zV (g := gb326) (o := .cells #[.int .i64 t316,.int .i64 t317,.slice Ao168 t318.length co168,.int .i64 t321,.slice Ao171 t322.length co171] 26 (0,0)) (rrB19c BK326.out) hb); have n14_ := zA (zZ (by repeat (first|(with_reducible first|exact HB.out|apply zO|apply zQ|apply zP|refine zN ?_ GE234.out|refine zN ?_ GE235.out|refine zN ?_ GE260.out|refine zN ?_ GE270.out|refine zN ?_ GE284.out|refine zN ?_ GE326.out)|exact HB.out)) hb); clear HO_261002 HO_261004 HO_271002 HO_271004 HO_285002 HO_285004 HO_327002 HO_327004 BK234 BK235 BK260 BK270 BK284 BK326 HB; have HO_261002 := n0_; have HO_261004 := n1_; have HO_271002 := n2_; have HO_271004 := n3_; have HO_285002 := n4_; have HO_285004 := n5_; have HO_327002 := n6_; have HO_327004 := n7_; have BK234 := n8_; have BK235 := n9_; have BK260 := n10_; have BK270 := n11_; have BK284 := n12_; have BK326 := n13_; have HB := n14_; clear n0_ n1_ n2_ n3_ n4_ n5_ n6_ n7_ n8_ n9_ n10_ n11_ n12_ n13_ n14_; (try clear hb); (try clear hb2); (try clear hk); (try clear hi)))
                  go_ret
                  exact ⟨by first|rfl|(simp [errW_none,errW_some] <;> rfl)|(simp [*,errW_none,errW_some] <;> rfl),by repeat (first|(with_reducible first|exact HB.out|apply zO|apply zQ|apply zP|refine zN ?_ GE234.out|refine zN ?_ GE235.out|refine zN ?_ GE260.out|refine zN ?_ GE270.out|refine zN ?_ GE284.out|refine zN ?_ GE326.out)|exact HB.out)⟩
            ·
             rw [if_neg c145] at H
             have c145b0 : (t303 == t300) = false := beq_eq_false_iff_ne.mpr c145
             have c145b1 : (t303 != t300) = true := bne_iff_ne.mpr c145
             obtain rfl := Option.some.inj H
             have hnb224 := NB284_234.out
             have hnc224 := NB234_284.out
             have hnb225 := NB284_235.out
             have hnc225 := NB235_284.out
             have hnb226 := NB284_260.out
             have hnc226 := NB260_284.out
             have hnb227 := NB284_270.out
             have hnc227 := NB270_284.out
             have hcz228_0 : wc.cell? ⟨gb284,0,none⟩ = some (.int .i64 t274) := (zW BK284.out 0).trans rfl
             have hcz228_1 : wc.cell? ⟨gb284,1,none⟩ = some (.int .i64 t275) := (zW BK284.out 1).trans rfl
             have hcz228_2 : wc.cell? ⟨gb284,2,none⟩ = some (.slice Ao66 t276.length co66) := (zW BK284.out 2).trans rfl
             have hcz228_3 : wc.cell? ⟨gb284,3,none⟩ = some (.int .i64 t279) := (zW BK284.out 3).trans rfl
             have hcz228_4 : wc.cell? ⟨gb284,4,none⟩ = some (.slice Ao69 t280.length co69) := (zW BK284.out 4).trans rfl
             have hfz228_0 := zU BK284.out 0
             have hfz228_1 := zU BK284.out 1
             have hfz228_2 := zU BK284.out 2
             have hfz228_3 := zU BK284.out 3
             have hfz228_4 := zU BK284.out 4
             go_wp2_with (first | ((with_reducible refine gate_callee (f := 16) rfl ?_); refine goesL_ (some 75) rfl rfl Try.func16 (by kernel_rfl) rfl #[.agg #[.int .i64 t274,.int .i64 t275,.slice Ao66 t276.length co66,.int .i64 t279,.slice Ao69 t280.length co69],.int .i64 1] rfl (by (try simp only [List.map_toArray,List.map_cons,List.map_nil]); first | done|rfl|(simp only [List.length_drop,List.length_take]; rfl)) ?_; (with_reducible refine (laws_markEnd.calls kj97 t274 t275 (fun k_ => some k_ = (.slice Ao66 t276.length co66 : Value).ownBlock) (.slice Ao66 t276.length co66) t276 t279 (fun k_ => some k_ = (.slice Ao69 t280.length co69 : Value).ownBlock) (.slice Ao69 t280.length co69) t280 1 t300 t301 t302 w _ ?side1 ?side2 ?side3 ?side4 ?side5 A134.out).mono ?_); (case side1 => repeat (first|(with_reducible first|exact HB.out|apply zO|apply zQ|apply zP|refine zN ?_ GE234.out|refine zN ?_ GE235.out|refine zN ?_ GE260.out|refine zN ?_ GE270.out|refine zN ?_ GE284.out)|exact HB.out)); (case side2 => exact Kd.Q_tight rfl HO_285002.out); (case side3 => exact fun k_ e_ => (HO_285002.out.1 k_ e_.symm).2.2.2.2); (case side4 => exact Kd.R_tight rfl HO_285004.out); (case side5 => exact fun k_ e_ => (HO_285004.out.1 k_ e_.symm).2.2.2.2); rintro e w229 ⟨rfl,hy0,hy1,hb,hkp⟩; refine ⟨_,rfl,?_⟩; have n0_ := zA (Kd.Q_mono (ok' := fun k_ => some k_ ≠ (.slice Ao46 t256.length co46 : Value).ownBlock ∧ some k_ ≠ (.slice Ao56 t297.length co56 : Value).ownBlock ∧ some k_ ≠ (.slice Ao57 t298.length co57 : Value).ownBlock ∧ some k_ ≠ (.slice Ao66 t276.length co66 : Value).ownBlock ∧ some k_ ≠ (.slice Ao69 t280.length co69 : Value).ownBlock) (Kd.Q_keptB (HO_261002.out) hkp (fun k_ hk_ hs_ => Or.elim hs_ (fun e_ => (hk_.2.2.2.1) e_) (fun e_ => (hk_.2.2.2.2) e_))) (fun k_ hk_ => ⟨hk_.1.1,hk_.1.2.1,hk_.1.2.2.1,hk_.1.2.2.2.1,hk_.1.2.2.2.2⟩)); have n1_ := zA (zC (ok' := fun k_ => some k_ ≠ (.slice Ao43 t252.length co43 : Value).ownBlock ∧ some k_ ≠ (.slice Ao56 t297.length co56 : Value).ownBlock ∧ some k_ ≠ (.slice Ao57 t298.length co57 : Value).ownBlock ∧ some k_ ≠ (.slice Ao66 t276.length co66 : Value).ownBlock ∧ some k_ ≠ (.slice Ao69 t280.length co69 : Value).ownBlock) (Kd.R_keptB (HO_261004.out) hkp (fun k_ hk_ hs_ => Or.elim hs_ (fun e_ => (hk_.2.2.2.1) e_) (fun e_ => (hk_.2.2.2.2) e_))) (fun k_ hk_ => ⟨hk_.1.1,hk_.1.2.1,hk_.1.2.2.1,hk_.1.2.2.2.1,hk_.1.2.2.2.2⟩)); have n2_ := zA (Kd.Q_mono (ok' := fun k_ => some k_ ≠ (.slice Ao43 t252.length co43 : Value).ownBlock ∧ some k_ ≠ (.slice Ao46 t256.length co46 : Value).ownBlock ∧ some k_ ≠ (.slice Ao57 t298.length co57 : Value).ownBlock ∧ some k_ ≠ (.slice Ao66 t276.length co66 : Value).ownBlock ∧ some k_ ≠ (.slice Ao69 t280.length co69 : Value).ownBlock) (Kd.Q_keptB (HO_271002.out) hkp (fun k_ hk_ hs_ => Or.elim hs_ (fun e_ => (hk_.2.2.2.1) e_) (fun e_ => (hk_.2.2.2.2) e_))) (fun k_ hk_ => ⟨hk_.1.1,hk_.1.2.1,hk_.1.2.2.1,hk_.1.2.2.2.1,hk_.1.2.2.2.2⟩)); have n3_ := zA (zC (ok' := fun k_ => some k_ ≠ (.slice Ao43 t252.length co43 : Value).ownBlock ∧ some k_ ≠ (.slice Ao46 t256.length co46 : Value).ownBlock ∧ some k_ ≠ (.slice Ao56 t297.length co56 : Value).ownBlock ∧ some k_ ≠ (.slice Ao66 t276.length co66 : Value).ownBlock ∧ some k_ ≠ (.slice Ao69 t280.length co69 : Value).ownBlock) (Kd.R_keptB (HO_271004.out) hkp (fun k_ hk_ hs_ => Or.elim hs_ (fun e_ => (hk_.2.2.2.1) e_) (fun e_ => (hk_.2.2.2.2) e_))) (fun k_ hk_ => ⟨hk_.1.1,hk_.1.2.1,hk_.1.2.2.1,hk_.1.2.2.2.1,hk_.1.2.2.2.2⟩)); have n4_ := zA (Kd.Q_reok rfl hy0 (fun k_ e_ => HO_285002.out.1 k_ e_)); have n5_ := zA (Kd.R_reok rfl hy1 (fun k_ e_ => HO_285004.out.1 k_ e_)); have n6_ := zA (zY (rrB19c BK234.out) hkp (fun hs_ => Or.elim hs_ (fun e_ => (fun e_ => (Kd.Q_ne HO_285002.out BK234.out (by decide)) e_) e_) (fun e_ => (fun e_ => (Kd.R_ne HO_285004.out BK234.out (by decide)) e_) e_))); have n7_ := zA (zY (rrB19c BK235.out) hkp (fun hs_ => Or.elim hs_ (fun e_ => (fun e_ => (Kd.Q_ne HO_285002.out BK235.out (by decide)) e_) e_) (fun e_ => (fun e_ => (Kd.R_ne HO_285004.out BK235.out (by decide)) e_) e_))); have n8_ := zA (zY (rrB19c BK260.out) hkp (fun hs_ => Or.elim hs_ (fun e_ => (fun e_ => (Kd.Q_ne HO_285002.out BK260.out (by decide)) e_) e_) (fun e_ => (fun e_ => (Kd.R_ne HO_285004.out BK260.out (by decide)) e_) e_))); have n9_ := zA (zY (rrB19c BK270.out) hkp (fun hs_ => Or.elim hs_ (fun e_ => (fun e_ => (Kd.Q_ne HO_285002.out BK270.out (by decide)) e_) e_) (fun e_ => (fun e_ => (Kd.R_ne HO_285004.out BK270.out (by decide)) e_) e_))); have n10_ := zA (zY (rrB19c BK284.out) hkp (fun hs_ => Or.elim hs_ (fun e_ => (fun e_ => (Kd.Q_ne HO_285002.out BK284.out (by decide)) e_) e_) (fun e_ => (fun e_ => (Kd.R_ne HO_285004.out BK284.out (by decide)) e_) e_))); have n11_ := zA (hb); clear HO_261002 HO_261004 HO_271002 HO_271004 HO_285002 HO_285004 BK234 BK235 BK260 BK270 BK284 HB; have HO_261002 := n0_; have HO_261004 := n1_; have HO_271002 := n2_; have HO_271004 := n3_; have HO_285002 := n4_; have HO_285004 := n5_; have BK234 := n6_; have BK235 := n7_; have BK260 := n8_; have BK270 := n9_; have BK284 := n10_; have HB := n11_; clear n0_ n1_ n2_ n3_ n4_ n5_ n6_ n7_ n8_ n9_ n10_ n11_; (try clear hb); (try clear hkp); (try clear hy0); (try clear hy1); have hcz230_0 : w229.cell? ⟨gb284,0,none⟩ = some (.int .i64 t274) := (zW BK284.out 0).trans rfl; have hcz230_1 : w229.cell? ⟨gb284,1,none⟩ = some (.int .i64 t275) := (zW BK284.out 1).trans rfl; have hcz230_2 : w229.cell? ⟨gb284,2,none⟩ = some (.slice Ao66 t276.length co66) := (zW BK284.out 2).trans rfl; have hcz230_3 : w229.cell? ⟨gb284,3,none⟩ = some (.int .i64 t279) := (zW BK284.out 3).trans rfl; have hcz230_4 : w229.cell? ⟨gb284,4,none⟩ = some (.slice Ao69 t280.length co69) := (zW BK284.out 4).trans rfl; have hfz230_0 := zU BK284.out 0; have hfz230_1 := zU BK284.out 1; have hfz230_2 := zU BK284.out 2; have hfz230_3 := zU BK284.out 3; have hfz230_4 := zU BK284.out 4) | ((with_reducible refine gate_callee (f := 17) rfl ?_); refine goesL_ (some 78) rfl rfl Try.func17 (by kernel_rfl) rfl #[.agg #[.int .i64 t274,.int .i64 t275,.slice Ao66 t301.length co66,.int .i64 t279,.slice Ao69 t302.length co69],.int .i64 1] rfl (by (try simp only [List.map_toArray,List.map_cons,List.map_nil]); first | done | (rw [show t301.length = t276.length from (Kd.Q_reads' HO_285002.out).1.symm,show t302.length = t280.length from (zI HO_285004.out).1.symm] <;> rfl)|rfl|(simp only [List.length_drop,List.length_take]; rfl)) ?_; (with_reducible refine (laws_heldEnd.calls kj97 t274 t275 _ _ t301 t279 _ _ t302 1 t303 _ ?side1 ?side2 ?side3 ?side4 A135.out).mono ?_); (case side1 => repeat (first|exact (Kd.Q_reads' HO_285002.out).2.2|(with_reducible refine Kd.C_alloc ?_ _)|(with_reducible refine Kd.C_drewN ?_ _)|(with_reducible refine Kd.C_drew ?_))); (case side2 => rw [show t301.length = t276.length from (Kd.Q_reads' HO_285002.out).1.symm]; exact (Kd.Q_reads' HO_285002.out).2.1); (case side3 => repeat (first|exact (zI HO_285004.out).2.2|(with_reducible refine Kd.C_alloc ?_ _)|(with_reducible refine Kd.C_drewN ?_ _)|(with_reducible refine Kd.C_drew ?_))); (case side4 => rw [show t302.length = t280.length from (zI HO_285004.out).1.symm]; exact (zI HO_285004.out).2.1); rintro e w231 ⟨rfl,hb⟩; refine ⟨_,rfl,?_⟩; have n0_ := zA (Kd.Q_below (by (with_reducible repeat (first|apply Kd.Q_alloc|apply Kd.Q_drewN|apply Kd.Q_drew)); exact HO_261002.out) hb); have n1_ := zA (zD (rrA19c HO_261004.out) hb); have n2_ := zA (Kd.Q_below (by (with_reducible repeat (first|apply Kd.Q_alloc|apply Kd.Q_drewN|apply Kd.Q_drew)); exact HO_271002.out) hb); have n3_ := zA (zD (rrA19c HO_271004.out) hb); have n4_ := zA (Kd.Q_below (by (with_reducible repeat (first|apply Kd.Q_alloc|apply Kd.Q_drewN|apply Kd.Q_drew)); exact HO_285002.out) hb); have n5_ := zA (zD (rrA19c HO_285004.out) hb); have n6_ := zA (zV (g := gb234) (o := .cells #[.int .i64 a0_0,.int .i64 a0_1,.slice A0_2 l0_2.length c0_2,.int .i64 a0_3,.slice A0_4 l0_4.length c0_4] 24 (0,0)) (rrB19c BK234.out) hb); have n7_ := zA (zV (g := gb235) (o := .cells #[.int .i64 a1_0,.int .i64 a1_1,.string a1_2] 41 (0,0)) (rrB19c BK235.out) hb); have n8_ := zA (zV (g := gb260) (o := .cells #[.int .i64 t250,.int .i64 t251,.slice Ao43 t252.length co43,.int .i64 t255,.slice Ao46 t256.length co46] 26 (0,0)) (rrB19c BK260.out) hb); have n9_ := zA (zV (g := gb270) (o := .cells #[.int .i64 t261,.int .i64 t262,.slice Ao56 t297.length co56,.int .i64 t266,.slice Ao57 t298.length co57] 26 (0,0)) (rrB19c BK270.out) hb); have n10_ := zA (zV (g := gb284) (o := .cells #[.int .i64 t274,.int .i64 t275,.slice Ao66 t276.length co66,.int .i64 t279,.slice Ao69 t280.length co69] 26 (0,0)) (rrB19c BK284.out) hb); have n11_ := zA (zZ (by repeat (first|(with_reducible first|exact HB.out|apply zO|apply zQ|apply zP|refine zN ?_ GE234.out|refine zN ?_ GE235.out|refine zN ?_ GE260.out|refine zN ?_ GE270.out|refine zN ?_ GE284.out)|exact HB.out)) hb); clear HO_261002 HO_261004 HO_271002 HO_271004 HO_285002 HO_285004 BK234 BK235 BK260 BK270 BK284 HB; have HO_261002 := n0_; have HO_261004 := n1_; have HO_271002 := n2_; have HO_271004 := n3_; have HO_285002 := n4_; have HO_285004 := n5_; have BK234 := n6_; have BK235 := n7_; have BK260 := n8_; have BK270 := n9_; have BK284 := n10_; have HB := n11_; clear n0_ n1_ n2_ n3_ n4_ n5_ n6_ n7_ n8_ n9_ n10_ n11_; (try clear hb); (try clear hb2); (try clear hk); (try clear hi)))
             go_ret
             exact ⟨by first|rfl|(simp [errW_none,errW_some] <;> rfl)|(simp [*,errW_none,errW_some] <;> rfl),by repeat (first|(with_reducible first|exact HB.out|apply zO|apply zQ|apply zP|refine zN ?_ GE234.out|refine zN ?_ GE235.out|refine zN ?_ GE260.out|refine zN ?_ GE270.out|refine zN ?_ GE284.out)|exact HB.out)⟩
theorem laws_FnExactReceive.calls (k : Nat) (a0_0 : Int) (a0_1 : Int) (A0_2 : Option Addr) (c0_2 : Nat) (l0_2 : List ByteArray) (a0_3 : Int) (A0_4 : Option Addr) (c0_4 : Nat) (l0_4 : List ByteArray) (a1_0 : Int) (a1_1 : Int) (a1_2 : ByteArray) (r : Bool) (w : World) (hr0_2 : Kd.C Kd.string w A0_2 l0_2.length l0_2) (hc0_2 : l0_2.length ≤ c0_2) (hr0_4 : Kd.C Kd.string w A0_4 l0_4.length l0_4) (hc0_4 : l0_4.length ≤ c0_4) (h : laws_FnExactReceive.f k a0_0 a0_1 l0_2 a0_3 l0_4 a1_0 a1_1 a1_2 = some r) : Calls Try.prog 5 #[.agg #[.int .i64 a0_0,.int .i64 a0_1,.slice A0_2 l0_2.length c0_2,.int .i64 a0_3,.slice A0_4 l0_4.length c0_4],.agg #[.int .i64 a1_0,.int .i64 a1_1,.string a1_2]] w fun e w' => e = .returned (.bool r) ∧ Below w.heap.size w w' := (laws_FnExactReceive.cut0 k a0_0 a0_1 A0_2 c0_2 l0_2 a0_3 A0_4 c0_4 l0_4 a1_0 a1_1 a1_2 r w).2 (fun _ => (laws_FnExactReceive.cut1 k a0_0 a0_1 A0_2 c0_2 l0_2 a0_3 A0_4 c0_4 l0_4 a1_0 a1_1 a1_2 r w).2 (fun _ => laws_FnExactReceive.rest2 k a0_0 a0_1 A0_2 c0_2 l0_2 a0_3 A0_4 c0_4 l0_4 a1_0 a1_1 a1_2 r w)) hr0_2 hc0_2 hr0_4 hc0_4 h
end Go.Proofs.Ytlidnobkkgcnlaa.PFnExactReceive

