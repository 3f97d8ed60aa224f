-- Written by a program out of the translation, for this claim.
import Derived.Test.YtfakkehopmihoaaPFnExactTokenTextx0
import Derived.Test.YtfakkehopmihoaaPFnExactTokenTextx9
import Derived.Test.YtfakkehopmihoaaPFnExactTokenTextx10
import Derived.Test.YtfakkehopmihoaaPFnExactTokenTextx11
import Derived.Test.YtfakkehopmihoaaPFnExactTokenTextx12
namespace Go.Proofs.Ytfakkehopmihoaa.PFnExactTokenText
open Go.RowKit Go.Proofs.YtfakkehopmihoaaW.PrintWords Go.Proofs.YtfakkehopmihoaaW.PrintLast Go.Proofs.YtfakkehopmihoaaW.PrintMore
attribute [local go_sem] max2_int min2_int max_two min_two max_three min_three max_four min_four   -- for this text's walks alone
set_option linter.unusedVariables false
set_option linter.unusedSimpArgs false

/-! ### impl_TokenText: function 22, by hand -/
def impl_TokenText.go (k : Nat) : List Int → ByteArray → Option ByteArray
  | [], s => some s
  | n :: l, s => (impl_varText.f k n).bind fun t => if s.size + t.size ≤ 1000000 then impl_TokenText.go k l (s ++ t) else none
def impl_TokenText.tail (k : Nat) (l : List Int) (s : ByteArray) : Option (ByteArray × Bool) := if s.size ≤ 1000000 ∧ l.length ≤ 1000000 then ((impl_varText.f k (l.length : Int)).bind fun t => (if s.size + t.size ≤ 1000000 then ((impl_TokenText.go k l (s ++ t)).bind fun r => (impl_Sealed.f k r)) else none)) else none
theorem impl_TokenText.go_mono (k : Nat) (l : List Int) : ∀ s, LeO (impl_TokenText.go k l s) (impl_TokenText.go (k + 1) l s) := by
  induction l with
  | nil => intro s; exact LeO.refl _
  | cons n l ih =>
    intro s
    unfold impl_TokenText.go
    refine LeO.bind (impl_varText.mono _ _) (fun t => ?_)
    split
    · exact ih _
    · exact LeO.none _
theorem impl_TokenText.tail_mono (l : List Int) (s : ByteArray) (k : Nat) : LeO (impl_TokenText.tail k l s) (impl_TokenText.tail (k + 1) l s) := by
  unfold impl_TokenText.tail
  refine LeO.ite (LeO.bind (impl_varText.mono _ _) (fun t => LeO.ite (LeO.bind (impl_TokenText.go_mono _ _ _) (fun r => impl_Sealed.mono _ _)) (LeO.none _))) (LeO.none _)
theorem impl_TokenText.tail_le {k : Nat} {l : List Int} {s : ByteArray} {r : ByteArray × Bool} (h : impl_TokenText.tail k l s = some r) : s.size ≤ 1000000 := by
  unfold impl_TokenText.tail at h
  split at h
  · rename_i h1; exact h1.1
  · cases h
def impl_TokenText.f (k : Nat) (a0_0 : Int) (a0_1 : Int) (a0_2 : Int) (a0_3 : Int) (a0_4 : Int) (l0_5 : List Int) : Option (ByteArray × Bool) := (impl_TokenOk.f k a0_0 a0_1 a0_2 a0_3 a0_4 l0_5).bind fun t180 => (if t180 = true then ((impl_octets.f k (([a0_0] : List Int))).bind fun t185 => ((impl_varText.f k a0_1).bind fun t186 => (if t185.size + t186.size ≤ 9223372036854775807 then ((impl_varText.f k a0_2).bind fun t187 => (if t185.size + t186.size + t187.size ≤ 9223372036854775807 then ((impl_varText.f k a0_3).bind fun t188 => (if t185.size + t186.size + t187.size + t188.size ≤ 9223372036854775807 then ((impl_octets.f k (([a0_4] : List Int))).bind fun t192 => (if t185.size + t186.size + t187.size + t188.size + t192.size ≤ 9223372036854775807 then (impl_TokenText.tail k l0_5 ((((t185 ++ t186) ++ t187) ++ t188) ++ t192)) else (none))) else (none))) else (none))) else (none)))) else (some ((⟨#[]⟩ : ByteArray), false)))
theorem impl_TokenText.mono : ∀ a0 a1 a2 a3 a4 a5 k, LeO (impl_TokenText.f k a0 a1 a2 a3 a4 a5) (impl_TokenText.f (k + 1) a0 a1 a2 a3 a4 a5) := by
  intro a0 a1 a2 a3 a4 a5 k
  unfold impl_TokenText.f
  repeat' first
      | (with_reducible exact impl_TokenText.tail_mono _ _ _)
      | (with_reducible exact impl_TokenOk.mono _ _ _ _ _ _ _)
      | (with_reducible exact impl_octets.mono _ _)
      | (with_reducible exact impl_varText.mono _ _)
      | (with_reducible exact LeO.refl _)
      | (with_reducible exact LeO.none _)
      | (with_reducible refine LeO.ite ?_ ?_)
      | (with_reducible refine LeO.bind ?_ (fun _ => ?_))
      | exact impl_TokenText.tail_mono _ _ _
      | exact impl_TokenOk.mono _ _ _ _ _ _ _
      | exact impl_octets.mono _ _
      | exact impl_varText.mono _ _
      | exact LeO.none _
      | refine LeO.ite ?_ ?_
      | refine LeO.bind ?_ (fun _ => ?_)
set_option maxHeartbeats 1000000 in
set_option maxRecDepth 100000 in
theorem impl_TokenText.copy_used (b : Nat) (w : World) (h0 : w.cell? ⟨b, 0, none⟩ = some (.pointer (some ⟨b, 0, none⟩))) :
    Calls Try.prog 70 #[.pointer (some ⟨b, 0, none⟩)] w fun e w' => e = .returned (.tuple #[]) ∧ w' = w := by
  obtain ⟨j, hj, _⟩ := Option.map_eq_some_iff.1 (show (Try.prog.info? 63).map (·.size) = some 2 by kernel_rfl)
  go_enter Try.func70, Try.ntmps70
  go_wp2
  rw [Lib.run_neq_ptr_same w _ Try.underlying61 hj]
  go_wp2
  go_end0
  exact ⟨rfl, rfl⟩
set_option maxHeartbeats 1000000 in
set_option maxRecDepth 100000 in
theorem impl_TokenText.copy_fresh (b : Nat) (w : World) (h0 : w.cell? ⟨b, 0, none⟩ = some (.pointer none)) (hsh : w.shape? b = some (63, 2)) (hfz : w.frozen? ⟨b, 0, none⟩ = false) :
    Calls Try.prog 70 #[.pointer (some ⟨b, 0, none⟩)] w fun e w' => e = .returned (.tuple #[]) ∧ w' = w.setCell ⟨b, 0, none⟩ (.pointer (some ⟨b, 0, none⟩)) := by
  obtain ⟨j, hj, hjs⟩ := Option.map_eq_some_iff.1 (show (Try.prog.info? 63).map (·.size) = some 2 by kernel_rfl)
  go_enter Try.func70, Try.ntmps70
  go_wp2
  rw [Lib.run_to_unsafe w ⟨b, 0, none⟩ Try.underlying61 Try.underlying97 hj (by rw [hjs]; decide) hsh (Nat.zero_lt_succ 1)]
  simp only [Result.andThen]
  rw [Oper.upon_value]
  go_wp2
  rw [run_callFunc_extern Try.func83 (by kernel_rfl) (by kernel_rfl) (by kernel_rfl) (e := Extern.AbiNoEscape.same) (by kernel_rfl)]
  rw [Lib.run_noEscape]
  simp only [Result.andThen]
  rw [Oper.upon_value]
  go_wp2
  rw [Lib.run_from_unsafe w ⟨b, 0, none⟩ Try.underlying97 Try.underlying61 hj hsh (by kernel_rfl)]
  simp only [Result.andThen]
  rw [Oper.upon_value]
  go_wp2
  go_end0
  exact ⟨rfl, rfl⟩
theorem impl_TokenText.copyCheck (B b : Nat) (bs : List Value) (w : World) (h : Lib.IsBuilderF 63 5 B b bs w) :
    Calls Try.prog 70 #[.pointer (some ⟨b, 0, none⟩)] w fun e w' => e = .returned (.tuple #[]) ∧ (Lib.BuilderAtF 63 5 B b (.pointer (some ⟨b, 0, none⟩)) bs w' ∧ Below B w w' ∧ Lib.OthersKept 5 (some b) w w') := by
  rcases h with h | h
  · refine (impl_TokenText.copy_fresh b w h.cell0 h.shape h.frozen0).mono ?_
    rintro e w' ⟨rfl, rfl⟩
    exact ⟨rfl, h.used _, (Below.refl B w).setCell (p := ⟨b, 0, none⟩) h.1 _, (Lib.OthersKept.refl _ _ w).setCell ⟨b, 0, none⟩ rfl _⟩
  · refine (impl_TokenText.copy_used b w h.cell0).mono ?_
    rintro e w' ⟨rfl, rfl⟩
    exact ⟨rfl, h, Below.refl B _, Lib.OthersKept.refl _ _ _⟩
set_option maxHeartbeats 2000000 in
set_option maxRecDepth 100000 in
theorem impl_TokenText.writeString (B b : Nat) (bs : List Value) (s : ByteArray) (w : World) (h : Lib.IsBuilderF 63 5 B b bs w) (hlen : bs.length + s.size ≤ 140737488355328) (hBw : B ≤ w.heap.size) :
    Calls Try.prog 50 #[.pointer (some ⟨b, 0, none⟩), .string s] w fun e w' => e = .returned (.tuple #[.int .i64 s.size, .nilIface]) ∧ (Lib.BuilderAtF 63 5 B b (.pointer (some ⟨b, 0, none⟩)) (bs ++ Lib.strCells s) w' ∧ Below B w w' ∧ Lib.OthersKept 5 (some b) w w') := by
  obtain ⟨i0, hi, hz0, hz1, hz2⟩ := info_parts (show (Try.prog.info? 5).map (fun i => (i.zero, i.size, i.bytes)) = some (some (.int .u8 0), 1, 1) by kernel_rfl)
  go_enter Try.func50, Try.ntmps50
  go_wp2_with (go_at_call 70; refine (impl_TokenText.copyCheck B b bs _ h).mono ?_)
  rintro e w1 ⟨rfl, h1, hb1, hk1⟩
  obtain ⟨hB, v, hbk, hown, hne⟩ := h1
  have c0 : w1.cell? ⟨b, 0, none⟩ = some (.pointer (some ⟨b, 0, none⟩)) := by rw [Lib.cell_of_heap hbk]; rfl
  have c1 : w1.cell? ⟨b, 1, none⟩ = some v := by rw [Lib.cell_of_heap hbk]; rfl
  go_wp2_with (at_builtin; refine Lib.wpList_append_own_stringF _ rfl _ _ 27 9 rfl B 5 i0 Try.underlying27 Try.underlying9 hi hz0 hz1 hz2 _ _ _ rfl hown s rfl ?c3 ?c4 ?c5 ?_)
  case c3 => unfold maxLen; omega
  case c4 => omega
  case c5 => have := hb1.size; omega
  intro v' w2 hown' hgrow _
  have hlt : b < w1.heap.size := by
    rcases Nat.lt_or_ge b w1.heap.size with h' | h'
    · exact h'
    · simp [Array.getElem?_eq_none h'] at hbk
  have hb2 : w2.heap[b]? = some (.cells #[.pointer (some ⟨b, 0, none⟩), v] 63 (0, 0)) := by
    rw [hgrow.block b hlt (fun e => hne e.symm)]
    exact hbk
  have d0 : w2.cell? ⟨b, 0, none⟩ = some (.pointer (some ⟨b, 0, none⟩)) := by rw [Lib.cell_of_heap hb2]; rfl
  have d1 : w2.cell? ⟨b, 1, none⟩ = some v := by rw [Lib.cell_of_heap hb2]; rfl
  have f1 : w2.frozen? ⟨b, 1, none⟩ = false := Lib.frozen_of_heap hb2 1
  obtain ⟨ao, n', cap, rfl⟩ : ∃ ao n' cap, v' = .slice ao n' cap := by
    rcases hown'.2 with ⟨hv, _⟩ | ⟨g, cap, cur, fz, hv, _⟩
    · exact ⟨_, _, _, hv⟩
    · exact ⟨_, _, _, hv⟩
  go_wp2
  go_ret2
  refine ⟨rfl, ?_, ?_, (hk1.grown hgrow (Lib.ownsRowF_kind hown)).setCell ⟨b, 1, none⟩ rfl _⟩
  · exact Lib.BuilderAtF.put (T := 63) (e := 5) hB hb2 (bs' := bs ++ Lib.strCells s) (by simpa [Lib.strCells_length] using hown') (by decide)
  · exact (hb1.grown hgrow (by have := hb1.size; omega) (fun k hk => (hown.lt k hk).1)).setCell (p := ⟨b, 1, none⟩) hB _
theorem impl_TokenText.freshB {B b : Nat} {w : World} (hB : B ≤ b) (h : w.heap[b]? = some (.cells #[.pointer none, .slice none 0 0] 63 (0, 0))) : Lib.IsBuilderF 63 5 B b [] w :=
  .inl ⟨hB, _, h, ⟨by simp, .inl ⟨rfl, rfl⟩⟩, by simp [Value.ownBlock]⟩
theorem impl_TokenText.keptB {g b : Nat} {w w' : World} {cs : Array Value} {ty : Nat} {fz : Nat × Nat} (h : Lib.OthersKept 5 (some b) w w') (hg : w.heap[g]? = some (.cells cs ty fz)) (hne : g ≠ b) (ht : ty ≠ 5) : w'.heap[g]? = some (.cells cs ty fz) :=
  h g _ hg (fun e => hne (Option.some.inj e)) (fun c f e => by injection e with e1 e2; exact ht e2)
theorem impl_TokenText.belowB {B b : Nat} {bs : List Value} {w w' : World} (h : Lib.IsBuilderF 63 5 B b bs w) (hb : Below w.heap.size w w') : Lib.IsBuilderF 63 5 B b bs w' := by
  have key : ∀ p, Lib.BuilderAtF 63 5 B b p bs w → Lib.BuilderAtF 63 5 B b p bs w' := fun p hp => by
    have hlt := hp.lt
    obtain ⟨hB, v, hbk, hown, hne⟩ := hp
    exact ⟨hB, v, (hb.block b hlt).trans hbk, hown.kept (row := none) ⟨hb.os, hb.tape, hb.output, hb.size, fun i hi _ => hb.block i hi⟩ (by cases hv : v.ownBlock <;> simp), hne⟩
  exact h.elim (fun x => .inl (key _ x)) (fun x => .inr (key _ x))
theorem impl_TokenText.cells_app (a b : ByteArray) : Lib.strCells (a ++ b) = Lib.strCells a ++ Lib.strCells b := by
  unfold Lib.strCells
  simp
def impl_TokenText.T4 : Bool × List (List Nat × List Nat) := (true, [([], []), ([0], [0]), ([1], [1]), ([2], [2]), ([], []), ([4], [4]), ([5, 3], [5]), ([3, 6], [3, 6]), ([], []), ([8], [8]), ([9, 6], [9]), ([7, 10], [7, 10]), ([], []), ([12], [12]), ([13, 10], [13]), ([11, 14], [11, 14]), ([], []), ([16], [16]), ([17], [17]), ([18, 14], [18]), ([15, 19], [15, 19]), ([20, 19], [20])])
def impl_TokenText.B4 : List Nat := [0, 1, 3, 7, 0, 16, 63, 127, 0, 256, 895, 2047, 0, 4096, 14207, 32767, 0, 65536, 196608, 489343, 1048575, 2097151]
theorem impl_TokenText.tab4 : rtab .any (opsOf Try.f22 4) = impl_TokenText.T4 := by kernel_rfl
theorem impl_TokenText.bits4 : waitsOk impl_TokenText.T4.2 impl_TokenText.B4 = true := by kernel_rfl
set_option maxHeartbeats 8000000 in
set_option maxRecDepth 100000 in
theorem impl_TokenText.calls (k : Nat) (a0_0 : Int) (a0_1 : Int) (a0_2 : Int) (a0_3 : Int) (a0_4 : Int) (A0_5 : Option Addr) (c0_5 : Nat) (l0_5 : List Int) (r1 : ByteArray) (r2 : Bool) (w : World) (hr0_5 : Kd.C (Kd.int .i64) w A0_5 l0_5.length l0_5) (hc0_5 : l0_5.length ≤ c0_5) (h : impl_TokenText.f k a0_0 a0_1 a0_2 a0_3 a0_4 l0_5 = some (r1, r2)) :
    Calls Try.prog 22 #[.agg #[.int .i64 a0_0, .int .i64 a0_1, .int .i64 a0_2, .int .i64 a0_3, .int .i64 a0_4, .slice A0_5 l0_5.length c0_5]] w fun e w' => e = .returned (.tuple #[.string r1, .bool r2]) ∧ Below w.heap.size w w' := by
  have hu37 := Try.underlying37
  have hu63 := Try.underlying63
  have HR0_5 := Aside0.mk hr0_5
  have HC0_5 := Aside0.mk hc0_5
  clear hr0_5 hc0_5
  have HB := Aside0.mk (Below.refl w.heap.size w)
  have H : ((impl_TokenOk.f k a0_0 a0_1 a0_2 a0_3 a0_4 l0_5).bind fun t180 => (if t180 = true then ((impl_octets.f k (([a0_0] : List Int))).bind fun t185 => ((impl_varText.f k a0_1).bind fun t186 => (if t185.size + t186.size ≤ 9223372036854775807 then ((impl_varText.f k a0_2).bind fun t187 => (if t185.size + t186.size + t187.size ≤ 9223372036854775807 then ((impl_varText.f k a0_3).bind fun t188 => (if t185.size + t186.size + t187.size + t188.size ≤ 9223372036854775807 then ((impl_octets.f k (([a0_4] : List Int))).bind fun t192 => (if t185.size + t186.size + t187.size + t188.size + t192.size ≤ 9223372036854775807 then (impl_TokenText.tail k l0_5 ((((t185 ++ t186) ++ t187) ++ t188) ++ t192)) else (none))) else (none))) else (none))) else (none)))) else (some ((⟨#[]⟩ : ByteArray), false)))) = some (r1, r2) := h
  clear h
  replace H := Option.bind_eq_some_iff.mp H
  obtain ⟨t180, A20, H⟩ := H
  replace H : (if t180 = true then ((impl_octets.f k (([a0_0] : List Int))).bind fun t185 => ((impl_varText.f k a0_1).bind fun t186 => (if t185.size + t186.size ≤ 9223372036854775807 then ((impl_varText.f k a0_2).bind fun t187 => (if t185.size + t186.size + t187.size ≤ 9223372036854775807 then ((impl_varText.f k a0_3).bind fun t188 => (if t185.size + t186.size + t187.size + t188.size ≤ 9223372036854775807 then ((impl_octets.f k (([a0_4] : List Int))).bind fun t192 => (if t185.size + t186.size + t187.size + t188.size + t192.size ≤ 9223372036854775807 then (impl_TokenText.tail k l0_5 ((((t185 ++ t186) ++ t187) ++ t188) ++ t192)) else (none))) else (none))) else (none))) else (none)))) else (some ((⟨#[]⟩ : ByteArray), false))) = some (r1, r2) := H
  have A2 := Aside0.mk A20
  clear A20
  by_cases c3 : t180 = true
  · subst c3
    have H1 : ((impl_octets.f k (([a0_0] : List Int))).bind fun t185 => ((impl_varText.f k a0_1).bind fun t186 => (if t185.size + t186.size ≤ 9223372036854775807 then ((impl_varText.f k a0_2).bind fun t187 => (if t185.size + t186.size + t187.size ≤ 9223372036854775807 then ((impl_varText.f k a0_3).bind fun t188 => (if t185.size + t186.size + t187.size + t188.size ≤ 9223372036854775807 then ((impl_octets.f k (([a0_4] : List Int))).bind fun t192 => (if t185.size + t186.size + t187.size + t188.size + t192.size ≤ 9223372036854775807 then (impl_TokenText.tail k l0_5 ((((t185 ++ t186) ++ t187) ++ t188) ++ t192)) else (none))) else (none))) else (none))) else (none)))) = some (r1, r2) := by rw [if_pos rfl] at H; exact H
    clear H
    have H := H1
    clear H1
    obtain ⟨y182, hy182⟩ : ∃ y_ : List Int, y_ = (([a0_0] : List Int)) := ⟨_, rfl⟩
    replace H : ((impl_octets.f k y182).bind fun t185 => ((impl_varText.f k a0_1).bind fun t186 => (if t185.size + t186.size ≤ 9223372036854775807 then ((impl_varText.f k a0_2).bind fun t187 => (if t185.size + t186.size + t187.size ≤ 9223372036854775807 then ((impl_varText.f k a0_3).bind fun t188 => (if t185.size + t186.size + t187.size + t188.size ≤ 9223372036854775807 then ((impl_octets.f k (([a0_4] : List Int))).bind fun t192 => (if t185.size + t186.size + t187.size + t188.size + t192.size ≤ 9223372036854775807 then (impl_TokenText.tail k l0_5 ((((t185 ++ t186) ++ t187) ++ t188) ++ t192)) else (none))) else (none))) else (none))) else (none)))) = some (r1, r2) := by first | (rw [hy182]; with_reducible exact H) | (have H2_ := (Option.bind_some _ _).symm.trans H; rw [hy182]; with_reducible exact H2_) | (have H2_ := (Option.bind_some _ _).symm.trans H; with_reducible exact H2_) | with_reducible exact H | (rw [hy182]; exact H) | exact H
    have Ny182 := Aside0.mk hy182
    clear hy182
    replace H := Option.bind_eq_some_iff.mp H
    obtain ⟨t185, A40, H⟩ := H
    replace H : ((impl_varText.f k a0_1).bind fun t186 => (if t185.size + t186.size ≤ 9223372036854775807 then ((impl_varText.f k a0_2).bind fun t187 => (if t185.size + t186.size + t187.size ≤ 9223372036854775807 then ((impl_varText.f k a0_3).bind fun t188 => (if t185.size + t186.size + t187.size + t188.size ≤ 9223372036854775807 then ((impl_octets.f k (([a0_4] : List Int))).bind fun t192 => (if t185.size + t186.size + t187.size + t188.size + t192.size ≤ 9223372036854775807 then (impl_TokenText.tail k l0_5 ((((t185 ++ t186) ++ t187) ++ t188) ++ t192)) else (none))) else (none))) else (none))) else (none))) = some (r1, r2) := H
    have A4 := Aside0.mk A40
    clear A40
    replace H := Option.bind_eq_some_iff.mp H
    obtain ⟨t186, A50, H⟩ := H
    replace H : (if t185.size + t186.size ≤ 9223372036854775807 then ((impl_varText.f k a0_2).bind fun t187 => (if t185.size + t186.size + t187.size ≤ 9223372036854775807 then ((impl_varText.f k a0_3).bind fun t188 => (if t185.size + t186.size + t187.size + t188.size ≤ 9223372036854775807 then ((impl_octets.f k (([a0_4] : List Int))).bind fun t192 => (if t185.size + t186.size + t187.size + t188.size + t192.size ≤ 9223372036854775807 then (impl_TokenText.tail k l0_5 ((((t185 ++ t186) ++ t187) ++ t188) ++ t192)) else (none))) else (none))) else (none))) else (none)) = some (r1, r2) := H
    have A5 := Aside0.mk A50
    clear A50
    by_cases c6 : t185.size + t186.size ≤ 9223372036854775807
    · rw [if_pos c6] at H
      have c6b0 := eq_true c6
      have c6b1 : decide (t185.size + t186.size ≤ 9223372036854775807) = true := decide_eq_true c6
      try have c6b2 : (9223372036854775807 < t185.size + t186.size) = False := eq_false (Nat.not_lt.2 c6)
      replace H := Option.bind_eq_some_iff.mp H
      obtain ⟨t187, A70, H⟩ := H
      replace H : (if t185.size + t186.size + t187.size ≤ 9223372036854775807 then ((impl_varText.f k a0_3).bind fun t188 => (if t185.size + t186.size + t187.size + t188.size ≤ 9223372036854775807 then ((impl_octets.f k (([a0_4] : List Int))).bind fun t192 => (if t185.size + t186.size + t187.size + t188.size + t192.size ≤ 9223372036854775807 then (impl_TokenText.tail k l0_5 ((((t185 ++ t186) ++ t187) ++ t188) ++ t192)) else (none))) else (none))) else (none)) = some (r1, r2) := H
      have A7 := Aside0.mk A70
      clear A70
      by_cases c8 : t185.size + t186.size + t187.size ≤ 9223372036854775807
      · rw [if_pos c8] at H
        have c8b0 := eq_true c8
        have c8b1 : decide (t185.size + t186.size + t187.size ≤ 9223372036854775807) = true := decide_eq_true c8
        try have c8b2 : (9223372036854775807 < t185.size + t186.size + t187.size) = False := eq_false (Nat.not_lt.2 c8)
        replace H := Option.bind_eq_some_iff.mp H
        obtain ⟨t188, A90, H⟩ := H
        replace H : (if t185.size + t186.size + t187.size + t188.size ≤ 9223372036854775807 then ((impl_octets.f k (([a0_4] : List Int))).bind fun t192 => (if t185.size + t186.size + t187.size + t188.size + t192.size ≤ 9223372036854775807 then (impl_TokenText.tail k l0_5 ((((t185 ++ t186) ++ t187) ++ t188) ++ t192)) else (none))) else (none)) = some (r1, r2) := H
        have A9 := Aside0.mk A90
        clear A90
        by_cases c10 : t185.size + t186.size + t187.size + t188.size ≤ 9223372036854775807
        · rw [if_pos c10] at H
          have c10b0 := eq_true c10
          have c10b1 : decide (t185.size + t186.size + t187.size + t188.size ≤ 9223372036854775807) = true := decide_eq_true c10
          try have c10b2 : (9223372036854775807 < t185.size + t186.size + t187.size + t188.size) = False := eq_false (Nat.not_lt.2 c10)
          obtain ⟨y189, hy189⟩ : ∃ y_ : List Int, y_ = (([a0_4] : List Int)) := ⟨_, rfl⟩
          replace H : ((impl_octets.f k y189).bind fun t192 => (if t185.size + t186.size + t187.size + t188.size + t192.size ≤ 9223372036854775807 then (impl_TokenText.tail k l0_5 ((((t185 ++ t186) ++ t187) ++ t188) ++ t192)) else (none))) = some (r1, r2) := by first | (rw [hy189]; with_reducible exact H) | (have H2_ := (Option.bind_some _ _).symm.trans H; rw [hy189]; with_reducible exact H2_) | (have H2_ := (Option.bind_some _ _).symm.trans H; with_reducible exact H2_) | with_reducible exact H | (rw [hy189]; exact H) | exact H
          have Ny189 := Aside0.mk hy189
          clear hy189
          replace H := Option.bind_eq_some_iff.mp H
          obtain ⟨t192, A110, H⟩ := H
          replace H : (if t185.size + t186.size + t187.size + t188.size + t192.size ≤ 9223372036854775807 then (impl_TokenText.tail k l0_5 ((((t185 ++ t186) ++ t187) ++ t188) ++ t192)) else (none)) = some (r1, r2) := H
          have A11 := Aside0.mk A110
          clear A110
          by_cases c12 : t185.size + t186.size + t187.size + t188.size + t192.size ≤ 9223372036854775807
          · rw [if_pos c12] at H
            have c12b0 := eq_true c12
            have c12b1 : decide (t185.size + t186.size + t187.size + t188.size + t192.size ≤ 9223372036854775807) = true := decide_eq_true c12
            try have c12b2 : (9223372036854775807 < t185.size + t186.size + t187.size + t188.size + t192.size) = False := eq_false (Nat.not_lt.2 c12)
            have HT := Aside0.mk H
            clear H
            go_enter Try.func22, Try.ntmps22
            try go_wp2_with (first | ((with_reducible refine gate_dst (N := 1) rfl ?_); refine box_event ?hg (N := 1) ?hd (cs := #[.int .i64 a0_0, .int .i64 a0_1, .int .i64 a0_2, .int .i64 a0_3, .int .i64 a0_4, .slice A0_5 l0_5.length c0_5]) (t := 37) ?hr ?_; (case hd => rfl); (case hg => rfl); (case hr => first | (go_simp; done) | (go_simp; rfl)); intro gb179 hg w14 hbox hb; have n0_ := Aside0.mk (below_step (by repeat (first | (with_reducible first | exact HB.out | apply below_alloc | apply pw_below_drewN | apply below_drew1) | exact HB.out)) hb); have n1_ := Aside0.mk (hbox); have n2_ := Aside0.mk ((by rw [hg]; exact (below_size (by repeat (first | (with_reducible first | exact HB.out | apply below_alloc | apply pw_below_drewN | apply below_drew1) | exact HB.out))) : w.heap.size ≤ gb179)); have n3_ := Aside0.mk ((by rw [hg]; exact (below_size (by repeat (first | (with_reducible first | exact HB.out | apply below_alloc | apply pw_below_drewN | apply below_drew1) | exact HB.out))) : w.heap.size ≤ gb179)); clear HB; have HB := n0_; have BK179 := n1_; have GW179 := n2_; have GE179 := n3_; clear n0_ n1_ n2_ n3_; clear hb hbox hg; have hcz15_0 : w14.cell? ⟨gb179, 0, none⟩ = some (.int .i64 a0_0) := (blk_cell BK179.out 0).trans rfl; have hcz15_1 : w14.cell? ⟨gb179, 1, none⟩ = some (.int .i64 a0_1) := (blk_cell BK179.out 1).trans rfl; have hcz15_2 : w14.cell? ⟨gb179, 2, none⟩ = some (.int .i64 a0_2) := (blk_cell BK179.out 2).trans rfl; have hcz15_3 : w14.cell? ⟨gb179, 3, none⟩ = some (.int .i64 a0_3) := (blk_cell BK179.out 3).trans rfl; have hcz15_4 : w14.cell? ⟨gb179, 4, none⟩ = some (.int .i64 a0_4) := (blk_cell BK179.out 4).trans rfl; have hcz15_5 : w14.cell? ⟨gb179, 5, none⟩ = some (.slice A0_5 l0_5.length c0_5) := (blk_cell BK179.out 5).trans rfl; have hfz15_0 := blk_frozen BK179.out 0; have hfz15_1 := blk_frozen BK179.out 1; have hfz15_2 := blk_frozen BK179.out 2; have hfz15_3 := blk_frozen BK179.out 3; have hfz15_4 := blk_frozen BK179.out 4; have hfz15_5 := blk_frozen BK179.out 5) | ((with_reducible refine gate_callee (f := 49) rfl ?_); refine goesL_ (some 8) rfl rfl Try.func49 (by kernel_rfl) rfl #[.agg #[.int .i64 a0_0, .int .i64 a0_1, .int .i64 a0_2, .int .i64 a0_3, .int .i64 a0_4, .slice A0_5 l0_5.length c0_5]] rfl (by (try simp only [List.map_toArray, List.map_cons, List.map_nil]); first | done | rfl | (simp only [List.length_drop, List.length_take]; rfl)) ?_; (with_reducible refine (impl_TokenOk.calls k a0_0 a0_1 a0_2 a0_3 a0_4 _ _ l0_5 true _ ?side1 ?side2 A2.out).mono ?_); (case side1 => repeat (first | exact (Kd.C_below HR0_5.out HB.out) | (with_reducible refine Kd.C_alloc ?_ _) | (with_reducible refine Kd.C_drewN ?_ _) | (with_reducible refine Kd.C_drew ?_))); (case side2 => exact HC0_5.out); rintro e w16 ⟨rfl, hb⟩; refine ⟨_, rfl, ?_⟩; have n0_ := Aside0.mk (blk_below (g := gb179) (o := .cells #[.int .i64 a0_0, .int .i64 a0_1, .int .i64 a0_2, .int .i64 a0_3, .int .i64 a0_4, .slice A0_5 l0_5.length c0_5] 37 (0, 0)) (by (with_reducible repeat (first | refine blk_drewN ?_ _ | refine blk_drew ?_ | refine blk_alloc ?_ _)); exact BK179.out) hb); have n1_ := Aside0.mk (below_step (by repeat (first | (with_reducible first | exact HB.out | apply below_alloc | apply pw_below_drewN | apply below_drew1 | refine below_set ?_ GE179.out) | exact HB.out)) hb); clear BK179; clear HB; have BK179 := n0_; have HB := n1_; clear n0_ n1_; (try clear hb); (try clear hb2); (try clear hk); (try clear hi)) | ((with_reducible refine gate_dst (N := 4) rfl ?_); refine box_event ?hg (N := 4) ?hd (cs := #[.pointer none, .slice none 0 0]) (t := 63) ?hr ?_; (case hd => rfl); (case hg => rfl); (case hr => first | (go_simp; done) | (go_simp; rfl)); intro gb181 hg w17 hbox hb; have n0_ := Aside0.mk (blk_below (g := gb179) (o := .cells #[.int .i64 a0_0, .int .i64 a0_1, .int .i64 a0_2, .int .i64 a0_3, .int .i64 a0_4, .slice A0_5 l0_5.length c0_5] 37 (0, 0)) (by (with_reducible repeat (first | refine blk_drewN ?_ _ | refine blk_drew ?_ | refine blk_alloc ?_ _)); exact BK179.out) hb); have n1_ := Aside0.mk (below_step (by repeat (first | (with_reducible first | exact HB.out | apply below_alloc | apply pw_below_drewN | apply below_drew1 | refine below_set ?_ GE179.out) | exact HB.out)) hb); have n2_ := Aside0.mk (hbox); have n3_ := Aside0.mk ((by rw [hg]; exact (below_size (by repeat (first | (with_reducible first | exact HB.out | apply below_alloc | apply pw_below_drewN | apply below_drew1 | refine below_set ?_ GE179.out) | exact HB.out))) : w.heap.size ≤ gb181)); have n4_ := Aside0.mk ((by rw [hg]; exact (below_size (by repeat (first | (with_reducible first | exact HB.out | apply below_alloc | apply pw_below_drewN | apply below_drew1 | refine below_set ?_ GE179.out) | exact HB.out))) : w.heap.size ≤ gb181)); have n5_ := Aside0.mk ((by rw [hg]; exact Nat.ne_of_lt (blk_lt (g := gb179) (o := .cells #[.int .i64 a0_0, .int .i64 a0_1, .int .i64 a0_2, .int .i64 a0_3, .int .i64 a0_4, .slice A0_5 l0_5.length c0_5] 37 (0, 0)) (by (with_reducible repeat (first | refine blk_drewN ?_ _ | refine blk_drew ?_ | refine blk_alloc ?_ _)); exact BK179.out)) : gb179 ≠ gb181)); have n6_ := Aside0.mk ((by rw [hg]; exact Nat.ne_of_gt (blk_lt (g := gb179) (o := .cells #[.int .i64 a0_0, .int .i64 a0_1, .int .i64 a0_2, .int .i64 a0_3, .int .i64 a0_4, .slice A0_5 l0_5.length c0_5] 37 (0, 0)) (by (with_reducible repeat (first | refine blk_drewN ?_ _ | refine blk_drew ?_ | refine blk_alloc ?_ _)); exact BK179.out)) : gb181 ≠ gb179)); clear BK179; clear HB; have BK179 := n0_; have HB := n1_; have BK181 := n2_; have GW181 := n3_; have GE181 := n4_; have NB179_181 := n5_; have NB181_179 := n6_; clear n0_ n1_ n2_ n3_ n4_ n5_ n6_; clear hb hbox hg))
            have n0_ := Aside0.mk (blk_drew BK179.out)
            have n1_ := Aside0.mk (blk_drew BK181.out)
            have n2_ := Aside0.mk (below_drew1 HB.out)
            clear BK179
            clear BK181
            clear HB
            have BK179 := n0_
            have BK181 := n1_
            have HB := n2_
            clear n0_ n1_ n2_
            refine start_ (n := 22) (S := fun w' => True) (ds := []) #[false, false, false, false, false, false, false, false, false, false, false, false, false, false, false, false, false, false, false, false, false, false] (by kernel_rfl) rfl rfl trivial (fun hHeld => ?_); refine with_tabW impl_TokenText.tab4 impl_TokenText.bits4 (fun HT_ HW_ => ?_)
            generalize w17.drew = w18 at BK179 BK181 HB hHeld ⊢
            refine pure_ (i := 0) (N := some 10) (v := ?_) (a' := ?_) #[true, false, false, false, false, false, false, false, false, false, false, false, false, false, false, false, false, false, false, false, false, false] rfl rfl (any_of HT_.out (by kernel_rfl)) (fun _ _ _ h => h) (Or.inl ⟨by rfl, ?_⟩) ?_ ?_
            rotate_left
            · intro w'
              go_simp
              with_reducible rfl
            rotate_left
            · simp only [Act.put, List.setIfInBounds_toArray, List.set_cons_zero, List.set_cons_succ, i64_w, i32_w]
              rfl
            refine pure_ (i := 4) (N := some 14) (v := ?_) (a' := ?_) #[true, false, false, false, true, false, false, false, false, false, false, false, false, false, false, false, false, false, false, false, false, false] rfl rfl (any_of HT_.out (by kernel_rfl)) (fun _ _ _ h => h) (Or.inl ⟨by rfl, ?_⟩) ?_ ?_
            rotate_left
            · intro w'
              go_simp
              with_reducible rfl
            rotate_left
            · simp only [Act.put, List.setIfInBounds_toArray, List.set_cons_zero, List.set_cons_succ, i64_w, i32_w]
              rfl
            refine pure_ (i := 8) (N := some 18) (v := ?_) (a' := ?_) #[true, false, false, false, true, false, false, false, true, false, false, false, false, false, false, false, false, false, false, false, false, false] rfl rfl (any_of HT_.out (by kernel_rfl)) (fun _ _ _ h => h) (Or.inl ⟨by rfl, ?_⟩) ?_ ?_
            rotate_left
            · intro w'
              go_simp
              with_reducible rfl
            rotate_left
            · simp only [Act.put, List.setIfInBounds_toArray, List.set_cons_zero, List.set_cons_succ, i64_w, i32_w]
              rfl
            refine pure_ (i := 12) (N := some 22) (v := ?_) (a' := ?_) #[true, false, false, false, true, false, false, false, true, false, false, false, true, false, false, false, false, false, false, false, false, false] rfl rfl (any_of HT_.out (by kernel_rfl)) (fun _ _ _ h => h) (Or.inl ⟨by rfl, ?_⟩) ?_ ?_
            rotate_left
            · intro w'
              go_simp
              with_reducible rfl
            rotate_left
            · simp only [Act.put, List.setIfInBounds_toArray, List.set_cons_zero, List.set_cons_succ, i64_w, i32_w]
              rfl
            refine pure_ (i := 16) (N := some 26) (v := ?_) (a' := ?_) #[true, false, false, false, true, false, false, false, true, false, false, false, true, false, false, false, true, false, false, false, false, false] rfl rfl (any_of HT_.out (by kernel_rfl)) (fun _ _ _ h => h) (Or.inl ⟨by rfl, ?_⟩) ?_ ?_
            rotate_left
            · intro w'
              go_simp
              with_reducible rfl
            rotate_left
            · simp only [Act.put, List.setIfInBounds_toArray, List.set_cons_zero, List.set_cons_succ, i64_w, i32_w]
              rfl
            refine inv_at [1, 2, 3, 5, 6, 7, 9, 10, 11, 13, 14, 15, 17, 18, 19, 20, 21] (fun a0_ b a w' => ∃ (v183 : Value) (v190 : Value), a = putSel a0_ b [(1, 11, .int .i64 a0_0), (2, 12, v183), (3, 13, .string t185), (5, 15, .int .i64 a0_1), (6, 16, .string t186), (7, 17, .string (t185 ++ t186)), (9, 19, .int .i64 a0_2), (10, 20, .string t187), (11, 21, .string ((t185 ++ t186) ++ t187)), (13, 23, .int .i64 a0_3), (14, 24, .string t188), (15, 25, .string (((t185 ++ t186) ++ t187) ++ t188)), (17, 27, .int .i64 a0_4), (18, 28, v190), (19, 29, .string t192), (20, 30, .string ((((t185 ++ t186) ++ t187) ++ t188) ++ t192)), (21, 31, .tuple #[.int .i64 (((((t185 ++ t186) ++ t187) ++ t188) ++ t192).size : Int), .nilIface])] ∧ (w'.heap[gb179]? = some (.cells #[.int .i64 a0_0, .int .i64 a0_1, .int .i64 a0_2, .int .i64 a0_3, .int .i64 a0_4, .slice A0_5 l0_5.length c0_5] 37 (0, 0))) ∧ (b 21 = false → w'.heap[gb181]? = some (.cells #[.pointer none, .slice none 0 0] 63 (0, 0))) ∧ (Below w.heap.size w w') ∧ (b 2 = true → b 21 = false → Kd.R (Kd.int .i64) 3 w' w.heap.size (fun _ => True) v183 y182) ∧ (b 18 = true → b 21 = false → Kd.R (Kd.int .i64) 3 w' w.heap.size (fun _ => True) v190 y189) ∧ (b 21 = true → Lib.IsBuilderF 63 5 w.heap.size gb181 (Lib.strCells ((((t185 ++ t186) ++ t187) ++ t188) ++ t192)) w')) HT_.out HW_.out (by kernel_rfl) (by kernel_rfl) ?_ ?_ ?_
            · exact ⟨.bool false, .bool false, by simp only [putSel, Bool.false_eq_true, if_false], BK179.out, fun _ => BK181.out, HB.out, fun h_ => absurd h_ (by decide), fun h_ => absurd h_ (by decide), fun h_ => absurd h_ (by decide)⟩
            · skip
              clear BK179 BK181 HB
              refine steps_cons ?_ ?_
              · rintro b a w' ⟨v183, v190, ha, Q_BK179, Q_BK181, Q_HB, Q_HO184, Q_HO191, Q_IS⟩ hb_ hon hoff
                refine ⟨_, rfl, fun K hK => ?_⟩
                have e10 : a.tmps[10]? = some (.pointer (some ⟨gb179, 0, none⟩)) := by rw [ha]; exact (putSel_off rfl).trans rfl
                replace ha := Aside0.mk ha
                have BK179 := Aside0.mk Q_BK179
                have BK181 := Aside0.mk (Q_BK181 (hoff 21 (by kernel_rfl)))
                have HB := Aside0.mk Q_HB
                have hc0_ : w'.cell? ⟨gb179, 0, none⟩ = some (.int .i64 a0_0) := (blk_cell BK179.out 0).trans rfl
                have hc1_ : w'.cell? ⟨gb179, 1, none⟩ = some (.int .i64 a0_1) := (blk_cell BK179.out 1).trans rfl
                have hc2_ : w'.cell? ⟨gb179, 2, none⟩ = some (.int .i64 a0_2) := (blk_cell BK179.out 2).trans rfl
                have hc3_ : w'.cell? ⟨gb179, 3, none⟩ = some (.int .i64 a0_3) := (blk_cell BK179.out 3).trans rfl
                have hc4_ : w'.cell? ⟨gb179, 4, none⟩ = some (.int .i64 a0_4) := (blk_cell BK179.out 4).trans rfl
                have hc5_ : w'.cell? ⟨gb179, 5, none⟩ = some (.slice A0_5 l0_5.length c0_5) := (blk_cell BK179.out 5).trans rfl
                refine value_ (w1 := w') (v := .int .i64 a0_0) (by rfl) rfl ?_ ?_
                · go_simp
                  (try simp only [i64_w])
                  try rfl
                refine hK.out _ _ ⟨v183, v190, (by rw [ha.out]; exact putSel_upk 0 hb_ rfl rfl rfl), Q_BK179, Q_BK181, Q_HB, fun h0_ => absurd ((hoff 2 (by kernel_rfl)).symm.trans h0_) (by decide), Q_HO191, Q_IS⟩
              refine steps_cons ?_ ?_
              · rintro b a w' ⟨v183, v190, ha, Q_BK179, Q_BK181, Q_HB, Q_HO184, Q_HO191, Q_IS⟩ hb_ hon hoff
                refine ⟨_, rfl, fun K hK => ?_⟩
                have e11 : a.tmps[11]? = some (.int .i64 a0_0) := by rw [ha]; exact putSel_on (e := (1, 11, .int .i64 a0_0)) 0 rfl rfl (hon 1 (by kernel_rfl)) rfl
                replace ha := Aside0.mk ha
                have BK179 := Aside0.mk Q_BK179
                have BK181 := Aside0.mk (Q_BK181 (hoff 21 (by kernel_rfl)))
                have HB := Aside0.mk Q_HB
                refine Kd.R_lit_step (Kd.int .i64) _ 3 ?hg (N := 12) ?hd (xs := ([a0_0] : List Int)) (inner := [.int .i64 a0_0]) (ok := fun _ => True) (okp := fun _ => True) ?hr ?hp (fun _ hk => hk) trivial (Below.refl _ _) (Nat.le_refl _) (by simp) ?_; (case hd => rfl); (case hg => rfl); (case hr => first | (go_simp; done) | (go_simp; rfl)); (case hp => exact (Reps.one (show Kd.M (Kd.int .i64) _ _ _ a0_0 [.int .i64 a0_0] from rfl) (Reps.none _ _)))
                intro v183 w19 ho20 hb hg_ hnew_
                clear hg_ hnew_
                (first | rw [← Ny182.out] at ho20 | (simp only [Int.reduceToNat] at ho20; rw [← Ny182.out] at ho20))
                have n0_ := Aside0.mk (Kd.R_lower ho20 (below_size (by repeat (first | (with_reducible first | exact HB.out | apply below_alloc | apply pw_below_drewN | apply below_drew1 | refine below_set ?_ GE179.out | refine below_set ?_ GE181.out) | exact HB.out))))
                have n1_ := Aside0.mk (blk_below (g := gb179) (o := .cells #[.int .i64 a0_0, .int .i64 a0_1, .int .i64 a0_2, .int .i64 a0_3, .int .i64 a0_4, .slice A0_5 l0_5.length c0_5] 37 (0, 0)) (by (with_reducible repeat (first | refine blk_drewN ?_ _ | refine blk_drew ?_ | refine blk_alloc ?_ _)); exact BK179.out) hb)
                have n2_ := Aside0.mk (blk_below (g := gb181) (o := .cells #[.pointer none, .slice none 0 0] 63 (0, 0)) (by (with_reducible repeat (first | refine blk_drewN ?_ _ | refine blk_drew ?_ | refine blk_alloc ?_ _)); exact BK181.out) hb)
                have n3_ := Aside0.mk (below_step (by repeat (first | (with_reducible first | exact HB.out | apply below_alloc | apply pw_below_drewN | apply below_drew1 | refine below_set ?_ GE179.out | refine below_set ?_ GE181.out) | exact HB.out)) hb)
                have z_HO191 := fun (h0_ : b 18 = true) (_ : b 21 = false) => (show Kd.R (Kd.int .i64) 3 w19 w.heap.size (fun _ => True) v190 y189 from by first | exact (Kd.R_elder' (by (with_reducible repeat (first | apply Kd.R_alloc | apply Kd.R_drewN | apply Kd.R_drew)); exact (Q_HO191 h0_ (hoff 21 (by kernel_rfl)))) (Kd.R_base ho20) hb) | exact Kd.R_mono (Kd.R_elder' (by (with_reducible repeat (first | apply Kd.R_alloc | apply Kd.R_drewN | apply Kd.R_drew)); exact (Q_HO191 h0_ (hoff 21 (by kernel_rfl)))) (Kd.R_base ho20) hb) (fun _ h_ => by first | trivial | exact h_ | exact h_.1))
                clear BK179
                clear BK181
                clear HB
                have HO184 := n0_
                have BK179 := n1_
                have BK181 := n2_
                have HB := n3_
                clear n0_ n1_ n2_ n3_
                clear hb ho20
                refine hK.out _ _ ⟨v183, v190, (by rw [ha.out]; exact putSel_upk 1 hb_ rfl rfl rfl), (by (with_reducible repeat (first | refine blk_drewN ?_ _ | refine blk_drew ?_ | refine blk_alloc ?_ _)); exact BK179.out), fun _ => (by (with_reducible repeat (first | refine blk_drewN ?_ _ | refine blk_drew ?_ | refine blk_alloc ?_ _)); exact BK181.out), (by repeat (first | (with_reducible first | exact HB.out | apply below_alloc | apply pw_below_drewN | apply below_drew1 | refine below_set ?_ GE179.out | refine below_set ?_ GE181.out) | exact HB.out)), fun _ _ => (by (with_reducible repeat (first | apply Kd.R_alloc | apply Kd.R_drewN | apply Kd.R_drew)); exact HO184.out), z_HO191, fun h_ => absurd ((hoff 21 (by kernel_rfl)).symm.trans h_) (by decide)⟩
              refine steps_cons ?_ ?_
              · rintro b a w' ⟨v183, v190, ha, Q_BK179, Q_BK181, Q_HB, Q_HO184, Q_HO191, Q_IS⟩ hb_ hon hoff
                refine ⟨_, rfl, fun K hK => ?_⟩
                have e12 : a.tmps[12]? = some (v183) := by rw [ha]; exact putSel_on (e := (2, 12, v183)) 1 rfl rfl (hon 2 (by kernel_rfl)) rfl
                replace ha := Aside0.mk ha
                have BK179 := Aside0.mk Q_BK179
                have BK181 := Aside0.mk (Q_BK181 (hoff 21 (by kernel_rfl)))
                have HB := Aside0.mk Q_HB
                have HO184 := Aside0.mk (Q_HO184 (hon 2 (by kernel_rfl)) (hoff 21 (by kernel_rfl)))
                obtain ⟨Ao22, co22, eo22⟩ := Kd.R_slice HO184.out
                (first | subst eo22 | (injection eo22 with f1_ f2_ f3_; have f4_ := f1_.symm; have f5_ := f3_.symm; clear f1_ f2_ f3_; subst f4_; subst f5_))
                refine goes_ Try.func51 (by kernel_rfl) rfl #[.slice Ao22 y182.length co22] (by rfl) rfl rfl (by first | (simp only [List.map_toArray, List.map_cons, List.map_nil, Act.eval, Array.getD_eq_getD_getElem?, Option.getD_some, e12]; done) | (simp only [List.map_toArray, List.map_cons, List.map_nil, Act.eval, Array.getD_eq_getD_getElem?, Option.getD_some, e12]; rfl)) ?_
                with_reducible refine (impl_octets.calls k _ _ y182 t185 _ ?side1 ?side2 A4.out).mono ?_
                (case side1 => repeat (first | exact (Kd.R_reads' HO184.out).2.2 | (with_reducible refine Kd.C_alloc ?_ _) | (with_reducible refine Kd.C_drewN ?_ _) | (with_reducible refine Kd.C_drew ?_)))
                (case side2 => exact (Kd.R_reads' HO184.out).2.1)
                rintro e w23 ⟨rfl, hb⟩
                refine ⟨_, rfl, ?_⟩
                have n0_ := Aside0.mk (Kd.R_below (by (with_reducible repeat (first | apply Kd.R_alloc | apply Kd.R_drewN | apply Kd.R_drew)); exact HO184.out) hb)
                have n1_ := Aside0.mk (blk_below (g := gb179) (o := .cells #[.int .i64 a0_0, .int .i64 a0_1, .int .i64 a0_2, .int .i64 a0_3, .int .i64 a0_4, .slice A0_5 l0_5.length c0_5] 37 (0, 0)) (by (with_reducible repeat (first | refine blk_drewN ?_ _ | refine blk_drew ?_ | refine blk_alloc ?_ _)); exact BK179.out) hb)
                have n2_ := Aside0.mk (blk_below (g := gb181) (o := .cells #[.pointer none, .slice none 0 0] 63 (0, 0)) (by (with_reducible repeat (first | refine blk_drewN ?_ _ | refine blk_drew ?_ | refine blk_alloc ?_ _)); exact BK181.out) hb)
                have n3_ := Aside0.mk (below_step (by repeat (first | (with_reducible first | exact HB.out | apply below_alloc | apply pw_below_drewN | apply below_drew1 | refine below_set ?_ GE179.out | refine below_set ?_ GE181.out) | exact HB.out)) hb)
                have z_HO191 := fun (h0_ : b 18 = true) (_ : b 21 = false) => (show Kd.R (Kd.int .i64) 3 w23 w.heap.size (fun _ => True) v190 y189 from by first | exact (Kd.R_below (by (with_reducible repeat (first | apply Kd.R_alloc | apply Kd.R_drewN | apply Kd.R_drew)); exact (Q_HO191 h0_ (hoff 21 (by kernel_rfl)))) hb) | exact Kd.R_mono (Kd.R_below (by (with_reducible repeat (first | apply Kd.R_alloc | apply Kd.R_drewN | apply Kd.R_drew)); exact (Q_HO191 h0_ (hoff 21 (by kernel_rfl)))) hb) (fun _ h_ => by first | trivial | exact h_ | exact h_.1))
                clear HO184
                clear BK179
                clear BK181
                clear HB
                have HO184 := n0_
                have BK179 := n1_
                have BK181 := n2_
                have HB := n3_
                clear n0_ n1_ n2_ n3_
                (try clear hb)
                (try clear hb2)
                (try clear hk)
                (try clear hi)
                refine hK.out _ _ ⟨.slice Ao22 y182.length co22, v190, (by rw [ha.out]; exact putSel_upk 2 hb_ rfl rfl rfl), (by (with_reducible repeat (first | refine blk_drewN ?_ _ | refine blk_drew ?_ | refine blk_alloc ?_ _)); exact BK179.out), fun _ => (by (with_reducible repeat (first | refine blk_drewN ?_ _ | refine blk_drew ?_ | refine blk_alloc ?_ _)); exact BK181.out), (by repeat (first | (with_reducible first | exact HB.out | apply below_alloc | apply pw_below_drewN | apply below_drew1 | refine below_set ?_ GE179.out | refine below_set ?_ GE181.out) | exact HB.out)), fun _ _ => (by (with_reducible repeat (first | apply Kd.R_alloc | apply Kd.R_drewN | apply Kd.R_drew)); exact HO184.out), z_HO191, fun h_ => absurd ((hoff 21 (by kernel_rfl)).symm.trans h_) (by decide)⟩
              refine steps_cons ?_ ?_
              · rintro b a w' ⟨v183, v190, ha, Q_BK179, Q_BK181, Q_HB, Q_HO184, Q_HO191, Q_IS⟩ hb_ hon hoff
                refine ⟨_, rfl, fun K hK => ?_⟩
                have e14 : a.tmps[14]? = some (.pointer (some ⟨gb179, 1, none⟩)) := by rw [ha]; exact (putSel_off rfl).trans rfl
                replace ha := Aside0.mk ha
                have BK179 := Aside0.mk Q_BK179
                have BK181 := Aside0.mk (Q_BK181 (hoff 21 (by kernel_rfl)))
                have HB := Aside0.mk Q_HB
                have hc0_ : w'.cell? ⟨gb179, 0, none⟩ = some (.int .i64 a0_0) := (blk_cell BK179.out 0).trans rfl
                have hc1_ : w'.cell? ⟨gb179, 1, none⟩ = some (.int .i64 a0_1) := (blk_cell BK179.out 1).trans rfl
                have hc2_ : w'.cell? ⟨gb179, 2, none⟩ = some (.int .i64 a0_2) := (blk_cell BK179.out 2).trans rfl
                have hc3_ : w'.cell? ⟨gb179, 3, none⟩ = some (.int .i64 a0_3) := (blk_cell BK179.out 3).trans rfl
                have hc4_ : w'.cell? ⟨gb179, 4, none⟩ = some (.int .i64 a0_4) := (blk_cell BK179.out 4).trans rfl
                have hc5_ : w'.cell? ⟨gb179, 5, none⟩ = some (.slice A0_5 l0_5.length c0_5) := (blk_cell BK179.out 5).trans rfl
                refine value_ (w1 := w') (v := .int .i64 a0_1) (by rfl) rfl ?_ ?_
                · go_simp
                  (try simp only [i64_w])
                  try rfl
                refine hK.out _ _ ⟨v183, v190, (by rw [ha.out]; exact putSel_upk 3 hb_ rfl rfl rfl), Q_BK179, Q_BK181, Q_HB, Q_HO184, Q_HO191, Q_IS⟩
              refine steps_cons ?_ ?_
              · rintro b a w' ⟨v183, v190, ha, Q_BK179, Q_BK181, Q_HB, Q_HO184, Q_HO191, Q_IS⟩ hb_ hon hoff
                refine ⟨_, rfl, fun K hK => ?_⟩
                have e15 : a.tmps[15]? = some (.int .i64 a0_1) := by rw [ha]; exact putSel_on (e := (5, 15, .int .i64 a0_1)) 3 rfl rfl (hon 5 (by kernel_rfl)) rfl
                replace ha := Aside0.mk ha
                have BK179 := Aside0.mk Q_BK179
                have BK181 := Aside0.mk (Q_BK181 (hoff 21 (by kernel_rfl)))
                have HB := Aside0.mk Q_HB
                have HO184 := Aside0.mk (Q_HO184 (hon 2 (by kernel_rfl)) (hoff 21 (by kernel_rfl)))
                refine goes_ Try.func52 (by kernel_rfl) rfl #[.int .i64 a0_1] (by rfl) rfl rfl (by first | (simp only [List.map_toArray, List.map_cons, List.map_nil, Act.eval, Array.getD_eq_getD_getElem?, Option.getD_some, e15]; done) | (simp only [List.map_toArray, List.map_cons, List.map_nil, Act.eval, Array.getD_eq_getD_getElem?, Option.getD_some, e15]; rfl)) ?_
                with_reducible refine (impl_varText.calls k a0_1 t186 _ A5.out).mono ?_
                rintro e w24 ⟨rfl, hb⟩
                refine ⟨_, rfl, ?_⟩
                have n0_ := Aside0.mk (Kd.R_below (by (with_reducible repeat (first | apply Kd.R_alloc | apply Kd.R_drewN | apply Kd.R_drew)); exact HO184.out) hb)
                have n1_ := Aside0.mk (blk_below (g := gb179) (o := .cells #[.int .i64 a0_0, .int .i64 a0_1, .int .i64 a0_2, .int .i64 a0_3, .int .i64 a0_4, .slice A0_5 l0_5.length c0_5] 37 (0, 0)) (by (with_reducible repeat (first | refine blk_drewN ?_ _ | refine blk_drew ?_ | refine blk_alloc ?_ _)); exact BK179.out) hb)
                have n2_ := Aside0.mk (blk_below (g := gb181) (o := .cells #[.pointer none, .slice none 0 0] 63 (0, 0)) (by (with_reducible repeat (first | refine blk_drewN ?_ _ | refine blk_drew ?_ | refine blk_alloc ?_ _)); exact BK181.out) hb)
                have n3_ := Aside0.mk (below_step (by repeat (first | (with_reducible first | exact HB.out | apply below_alloc | apply pw_below_drewN | apply below_drew1 | refine below_set ?_ GE179.out | refine below_set ?_ GE181.out) | exact HB.out)) hb)
                have z_HO191 := fun (h0_ : b 18 = true) (_ : b 21 = false) => (show Kd.R (Kd.int .i64) 3 w24 w.heap.size (fun _ => True) v190 y189 from by first | exact (Kd.R_below (by (with_reducible repeat (first | apply Kd.R_alloc | apply Kd.R_drewN | apply Kd.R_drew)); exact (Q_HO191 h0_ (hoff 21 (by kernel_rfl)))) hb) | exact Kd.R_mono (Kd.R_below (by (with_reducible repeat (first | apply Kd.R_alloc | apply Kd.R_drewN | apply Kd.R_drew)); exact (Q_HO191 h0_ (hoff 21 (by kernel_rfl)))) hb) (fun _ h_ => by first | trivial | exact h_ | exact h_.1))
                clear HO184
                clear BK179
                clear BK181
                clear HB
                have HO184 := n0_
                have BK179 := n1_
                have BK181 := n2_
                have HB := n3_
                clear n0_ n1_ n2_ n3_
                (try clear hb)
                (try clear hb2)
                (try clear hk)
                (try clear hi)
                refine hK.out _ _ ⟨v183, v190, (by rw [ha.out]; exact putSel_upk 4 hb_ rfl rfl rfl), (by (with_reducible repeat (first | refine blk_drewN ?_ _ | refine blk_drew ?_ | refine blk_alloc ?_ _)); exact BK179.out), fun _ => (by (with_reducible repeat (first | refine blk_drewN ?_ _ | refine blk_drew ?_ | refine blk_alloc ?_ _)); exact BK181.out), (by repeat (first | (with_reducible first | exact HB.out | apply below_alloc | apply pw_below_drewN | apply below_drew1 | refine below_set ?_ GE179.out | refine below_set ?_ GE181.out) | exact HB.out)), fun _ _ => (by (with_reducible repeat (first | apply Kd.R_alloc | apply Kd.R_drewN | apply Kd.R_drew)); exact HO184.out), z_HO191, fun h_ => absurd ((hoff 21 (by kernel_rfl)).symm.trans h_) (by decide)⟩
              refine steps_cons ?_ ?_
              · rintro b a w' ⟨v183, v190, ha, Q_BK179, Q_BK181, Q_HB, Q_HO184, Q_HO191, Q_IS⟩ hb_ hon hoff
                refine ⟨_, rfl, fun K hK => ?_⟩
                have e13 : a.tmps[13]? = some (.string t185) := by rw [ha]; exact putSel_on (e := (3, 13, .string t185)) 2 rfl rfl (hon 3 (by kernel_rfl)) rfl
                have e16 : a.tmps[16]? = some (.string t186) := by rw [ha]; exact putSel_on (e := (6, 16, .string t186)) 4 rfl rfl (hon 6 (by kernel_rfl)) rfl
                replace ha := Aside0.mk ha
                have BK179 := Aside0.mk Q_BK179
                have BK181 := Aside0.mk (Q_BK181 (hoff 21 (by kernel_rfl)))
                have HB := Aside0.mk Q_HB
                have HO184 := Aside0.mk (Q_HO184 (hon 2 (by kernel_rfl)) (hoff 21 (by kernel_rfl)))
                refine value_ (w1 := w') (v := .string (t185 ++ t186)) (by rfl) rfl ?_ ?_
                · go_simp
                  (try simp only [i64_w])
                  try rfl
                refine hK.out _ _ ⟨v183, v190, (by rw [ha.out]; exact putSel_upk 5 hb_ rfl rfl rfl), Q_BK179, Q_BK181, Q_HB, Q_HO184, Q_HO191, Q_IS⟩
              refine steps_cons ?_ ?_
              · rintro b a w' ⟨v183, v190, ha, Q_BK179, Q_BK181, Q_HB, Q_HO184, Q_HO191, Q_IS⟩ hb_ hon hoff
                refine ⟨_, rfl, fun K hK => ?_⟩
                have e18 : a.tmps[18]? = some (.pointer (some ⟨gb179, 2, none⟩)) := by rw [ha]; exact (putSel_off rfl).trans rfl
                replace ha := Aside0.mk ha
                have BK179 := Aside0.mk Q_BK179
                have BK181 := Aside0.mk (Q_BK181 (hoff 21 (by kernel_rfl)))
                have HB := Aside0.mk Q_HB
                have hc0_ : w'.cell? ⟨gb179, 0, none⟩ = some (.int .i64 a0_0) := (blk_cell BK179.out 0).trans rfl
                have hc1_ : w'.cell? ⟨gb179, 1, none⟩ = some (.int .i64 a0_1) := (blk_cell BK179.out 1).trans rfl
                have hc2_ : w'.cell? ⟨gb179, 2, none⟩ = some (.int .i64 a0_2) := (blk_cell BK179.out 2).trans rfl
                have hc3_ : w'.cell? ⟨gb179, 3, none⟩ = some (.int .i64 a0_3) := (blk_cell BK179.out 3).trans rfl
                have hc4_ : w'.cell? ⟨gb179, 4, none⟩ = some (.int .i64 a0_4) := (blk_cell BK179.out 4).trans rfl
                have hc5_ : w'.cell? ⟨gb179, 5, none⟩ = some (.slice A0_5 l0_5.length c0_5) := (blk_cell BK179.out 5).trans rfl
                refine value_ (w1 := w') (v := .int .i64 a0_2) (by rfl) rfl ?_ ?_
                · go_simp
                  (try simp only [i64_w])
                  try rfl
                refine hK.out _ _ ⟨v183, v190, (by rw [ha.out]; exact putSel_upk 6 hb_ rfl rfl rfl), Q_BK179, Q_BK181, Q_HB, Q_HO184, Q_HO191, Q_IS⟩
              refine steps_cons ?_ ?_
              · rintro b a w' ⟨v183, v190, ha, Q_BK179, Q_BK181, Q_HB, Q_HO184, Q_HO191, Q_IS⟩ hb_ hon hoff
                refine ⟨_, rfl, fun K hK => ?_⟩
                have e19 : a.tmps[19]? = some (.int .i64 a0_2) := by rw [ha]; exact putSel_on (e := (9, 19, .int .i64 a0_2)) 6 rfl rfl (hon 9 (by kernel_rfl)) rfl
                replace ha := Aside0.mk ha
                have BK179 := Aside0.mk Q_BK179
                have BK181 := Aside0.mk (Q_BK181 (hoff 21 (by kernel_rfl)))
                have HB := Aside0.mk Q_HB
                have HO184 := Aside0.mk (Q_HO184 (hon 2 (by kernel_rfl)) (hoff 21 (by kernel_rfl)))
                refine goes_ Try.func52 (by kernel_rfl) rfl #[.int .i64 a0_2] (by rfl) rfl rfl (by first | (simp only [List.map_toArray, List.map_cons, List.map_nil, Act.eval, Array.getD_eq_getD_getElem?, Option.getD_some, e19]; done) | (simp only [List.map_toArray, List.map_cons, List.map_nil, Act.eval, Array.getD_eq_getD_getElem?, Option.getD_some, e19]; rfl)) ?_
                with_reducible refine (impl_varText.calls k a0_2 t187 _ A7.out).mono ?_
                rintro e w25 ⟨rfl, hb⟩
                refine ⟨_, rfl, ?_⟩
                have n0_ := Aside0.mk (Kd.R_below (by (with_reducible repeat (first | apply Kd.R_alloc | apply Kd.R_drewN | apply Kd.R_drew)); exact HO184.out) hb)
                have n1_ := Aside0.mk (blk_below (g := gb179) (o := .cells #[.int .i64 a0_0, .int .i64 a0_1, .int .i64 a0_2, .int .i64 a0_3, .int .i64 a0_4, .slice A0_5 l0_5.length c0_5] 37 (0, 0)) (by (with_reducible repeat (first | refine blk_drewN ?_ _ | refine blk_drew ?_ | refine blk_alloc ?_ _)); exact BK179.out) hb)
                have n2_ := Aside0.mk (blk_below (g := gb181) (o := .cells #[.pointer none, .slice none 0 0] 63 (0, 0)) (by (with_reducible repeat (first | refine blk_drewN ?_ _ | refine blk_drew ?_ | refine blk_alloc ?_ _)); exact BK181.out) hb)
                have n3_ := Aside0.mk (below_step (by repeat (first | (with_reducible first | exact HB.out | apply below_alloc | apply pw_below_drewN | apply below_drew1 | refine below_set ?_ GE179.out | refine below_set ?_ GE181.out) | exact HB.out)) hb)
                have z_HO191 := fun (h0_ : b 18 = true) (_ : b 21 = false) => (show Kd.R (Kd.int .i64) 3 w25 w.heap.size (fun _ => True) v190 y189 from by first | exact (Kd.R_below (by (with_reducible repeat (first | apply Kd.R_alloc | apply Kd.R_drewN | apply Kd.R_drew)); exact (Q_HO191 h0_ (hoff 21 (by kernel_rfl)))) hb) | exact Kd.R_mono (Kd.R_below (by (with_reducible repeat (first | apply Kd.R_alloc | apply Kd.R_drewN | apply Kd.R_drew)); exact (Q_HO191 h0_ (hoff 21 (by kernel_rfl)))) hb) (fun _ h_ => by first | trivial | exact h_ | exact h_.1))
                clear HO184
                clear BK179
                clear BK181
                clear HB
                have HO184 := n0_
                have BK179 := n1_
                have BK181 := n2_
                have HB := n3_
                clear n0_ n1_ n2_ n3_
                (try clear hb)
                (try clear hb2)
                (try clear hk)
                (try clear hi)
                refine hK.out _ _ ⟨v183, v190, (by rw [ha.out]; exact putSel_upk 7 hb_ rfl rfl rfl), (by (with_reducible repeat (first | refine blk_drewN ?_ _ | refine blk_drew ?_ | refine blk_alloc ?_ _)); exact BK179.out), fun _ => (by (with_reducible repeat (first | refine blk_drewN ?_ _ | refine blk_drew ?_ | refine blk_alloc ?_ _)); exact BK181.out), (by repeat (first | (with_reducible first | exact HB.out | apply below_alloc | apply pw_below_drewN | apply below_drew1 | refine below_set ?_ GE179.out | refine below_set ?_ GE181.out) | exact HB.out)), fun _ _ => (by (with_reducible repeat (first | apply Kd.R_alloc | apply Kd.R_drewN | apply Kd.R_drew)); exact HO184.out), z_HO191, fun h_ => absurd ((hoff 21 (by kernel_rfl)).symm.trans h_) (by decide)⟩
              refine steps_cons ?_ ?_
              · rintro b a w' ⟨v183, v190, ha, Q_BK179, Q_BK181, Q_HB, Q_HO184, Q_HO191, Q_IS⟩ hb_ hon hoff
                refine ⟨_, rfl, fun K hK => ?_⟩
                have e17 : a.tmps[17]? = some (.string (t185 ++ t186)) := by rw [ha]; exact putSel_on (e := (7, 17, .string (t185 ++ t186))) 5 rfl rfl (hon 7 (by kernel_rfl)) rfl
                have e20 : a.tmps[20]? = some (.string t187) := by rw [ha]; exact putSel_on (e := (10, 20, .string t187)) 7 rfl rfl (hon 10 (by kernel_rfl)) rfl
                replace ha := Aside0.mk ha
                have BK179 := Aside0.mk Q_BK179
                have BK181 := Aside0.mk (Q_BK181 (hoff 21 (by kernel_rfl)))
                have HB := Aside0.mk Q_HB
                have HO184 := Aside0.mk (Q_HO184 (hon 2 (by kernel_rfl)) (hoff 21 (by kernel_rfl)))
                refine value_ (w1 := w') (v := .string ((t185 ++ t186) ++ t187)) (by rfl) rfl ?_ ?_
                · go_simp
                  (try simp only [i64_w])
                  try rfl
                refine hK.out _ _ ⟨v183, v190, (by rw [ha.out]; exact putSel_upk 8 hb_ rfl rfl rfl), Q_BK179, Q_BK181, Q_HB, Q_HO184, Q_HO191, Q_IS⟩
              refine steps_cons ?_ ?_
              · rintro b a w' ⟨v183, v190, ha, Q_BK179, Q_BK181, Q_HB, Q_HO184, Q_HO191, Q_IS⟩ hb_ hon hoff
                refine ⟨_, rfl, fun K hK => ?_⟩
                have e22 : a.tmps[22]? = some (.pointer (some ⟨gb179, 3, none⟩)) := by rw [ha]; exact (putSel_off rfl).trans rfl
                replace ha := Aside0.mk ha
                have BK179 := Aside0.mk Q_BK179
                have BK181 := Aside0.mk (Q_BK181 (hoff 21 (by kernel_rfl)))
                have HB := Aside0.mk Q_HB
                have hc0_ : w'.cell? ⟨gb179, 0, none⟩ = some (.int .i64 a0_0) := (blk_cell BK179.out 0).trans rfl
                have hc1_ : w'.cell? ⟨gb179, 1, none⟩ = some (.int .i64 a0_1) := (blk_cell BK179.out 1).trans rfl
                have hc2_ : w'.cell? ⟨gb179, 2, none⟩ = some (.int .i64 a0_2) := (blk_cell BK179.out 2).trans rfl
                have hc3_ : w'.cell? ⟨gb179, 3, none⟩ = some (.int .i64 a0_3) := (blk_cell BK179.out 3).trans rfl
                have hc4_ : w'.cell? ⟨gb179, 4, none⟩ = some (.int .i64 a0_4) := (blk_cell BK179.out 4).trans rfl
                have hc5_ : w'.cell? ⟨gb179, 5, none⟩ = some (.slice A0_5 l0_5.length c0_5) := (blk_cell BK179.out 5).trans rfl
                refine value_ (w1 := w') (v := .int .i64 a0_3) (by rfl) rfl ?_ ?_
                · go_simp
                  (try simp only [i64_w])
                  try rfl
                refine hK.out _ _ ⟨v183, v190, (by rw [ha.out]; exact putSel_upk 9 hb_ rfl rfl rfl), Q_BK179, Q_BK181, Q_HB, Q_HO184, Q_HO191, Q_IS⟩
              refine steps_cons ?_ ?_
              · rintro b a w' ⟨v183, v190, ha, Q_BK179, Q_BK181, Q_HB, Q_HO184, Q_HO191, Q_IS⟩ hb_ hon hoff
                refine ⟨_, rfl, fun K hK => ?_⟩
                have e23 : a.tmps[23]? = some (.int .i64 a0_3) := by rw [ha]; exact putSel_on (e := (13, 23, .int .i64 a0_3)) 9 rfl rfl (hon 13 (by kernel_rfl)) rfl
                replace ha := Aside0.mk ha
                have BK179 := Aside0.mk Q_BK179
                have BK181 := Aside0.mk (Q_BK181 (hoff 21 (by kernel_rfl)))
                have HB := Aside0.mk Q_HB
                have HO184 := Aside0.mk (Q_HO184 (hon 2 (by kernel_rfl)) (hoff 21 (by kernel_rfl)))
                refine goes_ Try.func52 (by kernel_rfl) rfl #[.int .i64 a0_3] (by rfl) rfl rfl (by first | (simp only [List.map_toArray, List.map_cons, List.map_nil, Act.eval, Array.getD_eq_getD_getElem?, Option.getD_some, e23]; done) | (simp only [List.map_toArray, List.map_cons, List.map_nil, Act.eval, Array.getD_eq_getD_getElem?, Option.getD_some, e23]; rfl)) ?_
                with_reducible refine (impl_varText.calls k a0_3 t188 _ A9.out).mono ?_
                rintro e w26 ⟨rfl, hb⟩
                refine ⟨_, rfl, ?_⟩
                have n0_ := Aside0.mk (Kd.R_below (by (with_reducible repeat (first | apply Kd.R_alloc | apply Kd.R_drewN | apply Kd.R_drew)); exact HO184.out) hb)
                have n1_ := Aside0.mk (blk_below (g := gb179) (o := .cells #[.int .i64 a0_0, .int .i64 a0_1, .int .i64 a0_2, .int .i64 a0_3, .int .i64 a0_4, .slice A0_5 l0_5.length c0_5] 37 (0, 0)) (by (with_reducible repeat (first | refine blk_drewN ?_ _ | refine blk_drew ?_ | refine blk_alloc ?_ _)); exact BK179.out) hb)
                have n2_ := Aside0.mk (blk_below (g := gb181) (o := .cells #[.pointer none, .slice none 0 0] 63 (0, 0)) (by (with_reducible repeat (first | refine blk_drewN ?_ _ | refine blk_drew ?_ | refine blk_alloc ?_ _)); exact BK181.out) hb)
                have n3_ := Aside0.mk (below_step (by repeat (first | (with_reducible first | exact HB.out | apply below_alloc | apply pw_below_drewN | apply below_drew1 | refine below_set ?_ GE179.out | refine below_set ?_ GE181.out) | exact HB.out)) hb)
                have z_HO191 := fun (h0_ : b 18 = true) (_ : b 21 = false) => (show Kd.R (Kd.int .i64) 3 w26 w.heap.size (fun _ => True) v190 y189 from by first | exact (Kd.R_below (by (with_reducible repeat (first | apply Kd.R_alloc | apply Kd.R_drewN | apply Kd.R_drew)); exact (Q_HO191 h0_ (hoff 21 (by kernel_rfl)))) hb) | exact Kd.R_mono (Kd.R_below (by (with_reducible repeat (first | apply Kd.R_alloc | apply Kd.R_drewN | apply Kd.R_drew)); exact (Q_HO191 h0_ (hoff 21 (by kernel_rfl)))) hb) (fun _ h_ => by first | trivial | exact h_ | exact h_.1))
                clear HO184
                clear BK179
                clear BK181
                clear HB
                have HO184 := n0_
                have BK179 := n1_
                have BK181 := n2_
                have HB := n3_
                clear n0_ n1_ n2_ n3_
                (try clear hb)
                (try clear hb2)
                (try clear hk)
                (try clear hi)
                refine hK.out _ _ ⟨v183, v190, (by rw [ha.out]; exact putSel_upk 10 hb_ rfl rfl rfl), (by (with_reducible repeat (first | refine blk_drewN ?_ _ | refine blk_drew ?_ | refine blk_alloc ?_ _)); exact BK179.out), fun _ => (by (with_reducible repeat (first | refine blk_drewN ?_ _ | refine blk_drew ?_ | refine blk_alloc ?_ _)); exact BK181.out), (by repeat (first | (with_reducible first | exact HB.out | apply below_alloc | apply pw_below_drewN | apply below_drew1 | refine below_set ?_ GE179.out | refine below_set ?_ GE181.out) | exact HB.out)), fun _ _ => (by (with_reducible repeat (first | apply Kd.R_alloc | apply Kd.R_drewN | apply Kd.R_drew)); exact HO184.out), z_HO191, fun h_ => absurd ((hoff 21 (by kernel_rfl)).symm.trans h_) (by decide)⟩
              refine steps_cons ?_ ?_
              · rintro b a w' ⟨v183, v190, ha, Q_BK179, Q_BK181, Q_HB, Q_HO184, Q_HO191, Q_IS⟩ hb_ hon hoff
                refine ⟨_, rfl, fun K hK => ?_⟩
                have e21 : a.tmps[21]? = some (.string ((t185 ++ t186) ++ t187)) := by rw [ha]; exact putSel_on (e := (11, 21, .string ((t185 ++ t186) ++ t187))) 8 rfl rfl (hon 11 (by kernel_rfl)) rfl
                have e24 : a.tmps[24]? = some (.string t188) := by rw [ha]; exact putSel_on (e := (14, 24, .string t188)) 10 rfl rfl (hon 14 (by kernel_rfl)) rfl
                replace ha := Aside0.mk ha
                have BK179 := Aside0.mk Q_BK179
                have BK181 := Aside0.mk (Q_BK181 (hoff 21 (by kernel_rfl)))
                have HB := Aside0.mk Q_HB
                have HO184 := Aside0.mk (Q_HO184 (hon 2 (by kernel_rfl)) (hoff 21 (by kernel_rfl)))
                refine value_ (w1 := w') (v := .string (((t185 ++ t186) ++ t187) ++ t188)) (by rfl) rfl ?_ ?_
                · go_simp
                  (try simp only [i64_w])
                  try rfl
                refine hK.out _ _ ⟨v183, v190, (by rw [ha.out]; exact putSel_upk 11 hb_ rfl rfl rfl), Q_BK179, Q_BK181, Q_HB, Q_HO184, Q_HO191, Q_IS⟩
              refine steps_cons ?_ ?_
              · rintro b a w' ⟨v183, v190, ha, Q_BK179, Q_BK181, Q_HB, Q_HO184, Q_HO191, Q_IS⟩ hb_ hon hoff
                refine ⟨_, rfl, fun K hK => ?_⟩
                have e26 : a.tmps[26]? = some (.pointer (some ⟨gb179, 4, none⟩)) := by rw [ha]; exact (putSel_off rfl).trans rfl
                replace ha := Aside0.mk ha
                have BK179 := Aside0.mk Q_BK179
                have BK181 := Aside0.mk (Q_BK181 (hoff 21 (by kernel_rfl)))
                have HB := Aside0.mk Q_HB
                have hc0_ : w'.cell? ⟨gb179, 0, none⟩ = some (.int .i64 a0_0) := (blk_cell BK179.out 0).trans rfl
                have hc1_ : w'.cell? ⟨gb179, 1, none⟩ = some (.int .i64 a0_1) := (blk_cell BK179.out 1).trans rfl
                have hc2_ : w'.cell? ⟨gb179, 2, none⟩ = some (.int .i64 a0_2) := (blk_cell BK179.out 2).trans rfl
                have hc3_ : w'.cell? ⟨gb179, 3, none⟩ = some (.int .i64 a0_3) := (blk_cell BK179.out 3).trans rfl
                have hc4_ : w'.cell? ⟨gb179, 4, none⟩ = some (.int .i64 a0_4) := (blk_cell BK179.out 4).trans rfl
                have hc5_ : w'.cell? ⟨gb179, 5, none⟩ = some (.slice A0_5 l0_5.length c0_5) := (blk_cell BK179.out 5).trans rfl
                refine value_ (w1 := w') (v := .int .i64 a0_4) (by rfl) rfl ?_ ?_
                · go_simp
                  (try simp only [i64_w])
                  try rfl
                refine hK.out _ _ ⟨v183, v190, (by rw [ha.out]; exact putSel_upk 12 hb_ rfl rfl rfl), Q_BK179, Q_BK181, Q_HB, Q_HO184, fun h0_ => absurd ((hoff 18 (by kernel_rfl)).symm.trans h0_) (by decide), Q_IS⟩
              refine steps_cons ?_ ?_
              · rintro b a w' ⟨v183, v190, ha, Q_BK179, Q_BK181, Q_HB, Q_HO184, Q_HO191, Q_IS⟩ hb_ hon hoff
                refine ⟨_, rfl, fun K hK => ?_⟩
                have e27 : a.tmps[27]? = some (.int .i64 a0_4) := by rw [ha]; exact putSel_on (e := (17, 27, .int .i64 a0_4)) 12 rfl rfl (hon 17 (by kernel_rfl)) rfl
                replace ha := Aside0.mk ha
                have BK179 := Aside0.mk Q_BK179
                have BK181 := Aside0.mk (Q_BK181 (hoff 21 (by kernel_rfl)))
                have HB := Aside0.mk Q_HB
                refine Kd.R_lit_step (Kd.int .i64) _ 3 ?hg (N := 28) ?hd (xs := ([a0_4] : List Int)) (inner := [.int .i64 a0_4]) (ok := fun _ => True) (okp := fun _ => True) ?hr ?hp (fun _ hk => hk) trivial (Below.refl _ _) (Nat.le_refl _) (by simp) ?_; (case hd => rfl); (case hg => rfl); (case hr => first | (go_simp; done) | (go_simp; rfl)); (case hp => exact (Reps.one (show Kd.M (Kd.int .i64) _ _ _ a0_4 [.int .i64 a0_4] from rfl) (Reps.none _ _)))
                intro v190 w19 ho20 hb hg_ hnew_
                clear hg_ hnew_
                (first | rw [← Ny189.out] at ho20 | (simp only [Int.reduceToNat] at ho20; rw [← Ny189.out] at ho20))
                have n0_ := Aside0.mk (Kd.R_lower ho20 (below_size (by repeat (first | (with_reducible first | exact HB.out | apply below_alloc | apply pw_below_drewN | apply below_drew1 | refine below_set ?_ GE179.out | refine below_set ?_ GE181.out) | exact HB.out))))
                have n1_ := Aside0.mk (blk_below (g := gb179) (o := .cells #[.int .i64 a0_0, .int .i64 a0_1, .int .i64 a0_2, .int .i64 a0_3, .int .i64 a0_4, .slice A0_5 l0_5.length c0_5] 37 (0, 0)) (by (with_reducible repeat (first | refine blk_drewN ?_ _ | refine blk_drew ?_ | refine blk_alloc ?_ _)); exact BK179.out) hb)
                have n2_ := Aside0.mk (blk_below (g := gb181) (o := .cells #[.pointer none, .slice none 0 0] 63 (0, 0)) (by (with_reducible repeat (first | refine blk_drewN ?_ _ | refine blk_drew ?_ | refine blk_alloc ?_ _)); exact BK181.out) hb)
                have n3_ := Aside0.mk (below_step (by repeat (first | (with_reducible first | exact HB.out | apply below_alloc | apply pw_below_drewN | apply below_drew1 | refine below_set ?_ GE179.out | refine below_set ?_ GE181.out) | exact HB.out)) hb)
                have z_HO184 := fun (h0_ : b 2 = true) (_ : b 21 = false) => (show Kd.R (Kd.int .i64) 3 w19 w.heap.size (fun _ => True) v183 y182 from by first | exact (Kd.R_elder' (by (with_reducible repeat (first | apply Kd.R_alloc | apply Kd.R_drewN | apply Kd.R_drew)); exact (Q_HO184 h0_ (hoff 21 (by kernel_rfl)))) (Kd.R_base ho20) hb) | exact Kd.R_mono (Kd.R_elder' (by (with_reducible repeat (first | apply Kd.R_alloc | apply Kd.R_drewN | apply Kd.R_drew)); exact (Q_HO184 h0_ (hoff 21 (by kernel_rfl)))) (Kd.R_base ho20) hb) (fun _ h_ => by first | trivial | exact h_ | exact h_.1))
                clear BK179
                clear BK181
                clear HB
                have HO191 := n0_
                have BK179 := n1_
                have BK181 := n2_
                have HB := n3_
                clear n0_ n1_ n2_ n3_
                clear hb ho20
                refine hK.out _ _ ⟨v183, v190, (by rw [ha.out]; exact putSel_upk 13 hb_ rfl rfl rfl), (by (with_reducible repeat (first | refine blk_drewN ?_ _ | refine blk_drew ?_ | refine blk_alloc ?_ _)); exact BK179.out), fun _ => (by (with_reducible repeat (first | refine blk_drewN ?_ _ | refine blk_drew ?_ | refine blk_alloc ?_ _)); exact BK181.out), (by repeat (first | (with_reducible first | exact HB.out | apply below_alloc | apply pw_below_drewN | apply below_drew1 | refine below_set ?_ GE179.out | refine below_set ?_ GE181.out) | exact HB.out)), z_HO184, fun _ _ => (by (with_reducible repeat (first | apply Kd.R_alloc | apply Kd.R_drewN | apply Kd.R_drew)); exact HO191.out), fun h_ => absurd ((hoff 21 (by kernel_rfl)).symm.trans h_) (by decide)⟩
              refine steps_cons ?_ ?_
              · rintro b a w' ⟨v183, v190, ha, Q_BK179, Q_BK181, Q_HB, Q_HO184, Q_HO191, Q_IS⟩ hb_ hon hoff
                refine ⟨_, rfl, fun K hK => ?_⟩
                have e28 : a.tmps[28]? = some (v190) := by rw [ha]; exact putSel_on (e := (18, 28, v190)) 13 rfl rfl (hon 18 (by kernel_rfl)) rfl
                replace ha := Aside0.mk ha
                have BK179 := Aside0.mk Q_BK179
                have BK181 := Aside0.mk (Q_BK181 (hoff 21 (by kernel_rfl)))
                have HB := Aside0.mk Q_HB
                have HO184 := Aside0.mk (Q_HO184 (hon 2 (by kernel_rfl)) (hoff 21 (by kernel_rfl)))
                have HO191 := Aside0.mk (Q_HO191 (hon 18 (by kernel_rfl)) (hoff 21 (by kernel_rfl)))
                obtain ⟨Ao29, co29, eo29⟩ := Kd.R_slice HO191.out
                (first | subst eo29 | (injection eo29 with f1_ f2_ f3_; have f4_ := f1_.symm; have f5_ := f3_.symm; clear f1_ f2_ f3_; subst f4_; subst f5_))
                refine goes_ Try.func51 (by kernel_rfl) rfl #[.slice Ao29 y189.length co29] (by rfl) rfl rfl (by first | (simp only [List.map_toArray, List.map_cons, List.map_nil, Act.eval, Array.getD_eq_getD_getElem?, Option.getD_some, e28]; done) | (simp only [List.map_toArray, List.map_cons, List.map_nil, Act.eval, Array.getD_eq_getD_getElem?, Option.getD_some, e28]; rfl)) ?_
                with_reducible refine (impl_octets.calls k _ _ y189 t192 _ ?side1 ?side2 A11.out).mono ?_
                (case side1 => repeat (first | exact (Kd.R_reads' HO191.out).2.2 | (with_reducible refine Kd.C_alloc ?_ _) | (with_reducible refine Kd.C_drewN ?_ _) | (with_reducible refine Kd.C_drew ?_)))
                (case side2 => exact (Kd.R_reads' HO191.out).2.1)
                rintro e w30 ⟨rfl, hb⟩
                refine ⟨_, rfl, ?_⟩
                have n0_ := Aside0.mk (Kd.R_below (by (with_reducible repeat (first | apply Kd.R_alloc | apply Kd.R_drewN | apply Kd.R_drew)); exact HO184.out) hb)
                have n1_ := Aside0.mk (Kd.R_below (by (with_reducible repeat (first | apply Kd.R_alloc | apply Kd.R_drewN | apply Kd.R_drew)); exact HO191.out) hb)
                have n2_ := Aside0.mk (blk_below (g := gb179) (o := .cells #[.int .i64 a0_0, .int .i64 a0_1, .int .i64 a0_2, .int .i64 a0_3, .int .i64 a0_4, .slice A0_5 l0_5.length c0_5] 37 (0, 0)) (by (with_reducible repeat (first | refine blk_drewN ?_ _ | refine blk_drew ?_ | refine blk_alloc ?_ _)); exact BK179.out) hb)
                have n3_ := Aside0.mk (blk_below (g := gb181) (o := .cells #[.pointer none, .slice none 0 0] 63 (0, 0)) (by (with_reducible repeat (first | refine blk_drewN ?_ _ | refine blk_drew ?_ | refine blk_alloc ?_ _)); exact BK181.out) hb)
                have n4_ := Aside0.mk (below_step (by repeat (first | (with_reducible first | exact HB.out | apply below_alloc | apply pw_below_drewN | apply below_drew1 | refine below_set ?_ GE179.out | refine below_set ?_ GE181.out) | exact HB.out)) hb)
                clear HO184
                clear HO191
                clear BK179
                clear BK181
                clear HB
                have HO184 := n0_
                have HO191 := n1_
                have BK179 := n2_
                have BK181 := n3_
                have HB := n4_
                clear n0_ n1_ n2_ n3_ n4_
                (try clear hb)
                (try clear hb2)
                (try clear hk)
                (try clear hi)
                refine hK.out _ _ ⟨v183, .slice Ao29 y189.length co29, (by rw [ha.out]; exact putSel_upk 14 hb_ rfl rfl rfl), (by (with_reducible repeat (first | refine blk_drewN ?_ _ | refine blk_drew ?_ | refine blk_alloc ?_ _)); exact BK179.out), fun _ => (by (with_reducible repeat (first | refine blk_drewN ?_ _ | refine blk_drew ?_ | refine blk_alloc ?_ _)); exact BK181.out), (by repeat (first | (with_reducible first | exact HB.out | apply below_alloc | apply pw_below_drewN | apply below_drew1 | refine below_set ?_ GE179.out | refine below_set ?_ GE181.out) | exact HB.out)), fun _ _ => (by (with_reducible repeat (first | apply Kd.R_alloc | apply Kd.R_drewN | apply Kd.R_drew)); exact HO184.out), fun _ _ => (by (with_reducible repeat (first | apply Kd.R_alloc | apply Kd.R_drewN | apply Kd.R_drew)); exact HO191.out), fun h_ => absurd ((hoff 21 (by kernel_rfl)).symm.trans h_) (by decide)⟩
              refine steps_cons ?_ ?_
              · rintro b a w' ⟨v183, v190, ha, Q_BK179, Q_BK181, Q_HB, Q_HO184, Q_HO191, Q_IS⟩ hb_ hon hoff
                refine ⟨_, rfl, fun K hK => ?_⟩
                have e25 : a.tmps[25]? = some (.string (((t185 ++ t186) ++ t187) ++ t188)) := by rw [ha]; exact putSel_on (e := (15, 25, .string (((t185 ++ t186) ++ t187) ++ t188))) 11 rfl rfl (hon 15 (by kernel_rfl)) rfl
                have e29 : a.tmps[29]? = some (.string t192) := by rw [ha]; exact putSel_on (e := (19, 29, .string t192)) 14 rfl rfl (hon 19 (by kernel_rfl)) rfl
                replace ha := Aside0.mk ha
                have BK179 := Aside0.mk Q_BK179
                have BK181 := Aside0.mk (Q_BK181 (hoff 21 (by kernel_rfl)))
                have HB := Aside0.mk Q_HB
                have HO184 := Aside0.mk (Q_HO184 (hon 2 (by kernel_rfl)) (hoff 21 (by kernel_rfl)))
                have HO191 := Aside0.mk (Q_HO191 (hon 18 (by kernel_rfl)) (hoff 21 (by kernel_rfl)))
                refine value_ (w1 := w') (v := .string ((((t185 ++ t186) ++ t187) ++ t188) ++ t192)) (by rfl) rfl ?_ ?_
                · go_simp
                  (try simp only [i64_w])
                  try rfl
                refine hK.out _ _ ⟨v183, v190, (by rw [ha.out]; exact putSel_upk 15 hb_ rfl rfl rfl), Q_BK179, Q_BK181, Q_HB, Q_HO184, Q_HO191, Q_IS⟩
              refine steps_cons ?_ ?_
              · rintro b a w' ⟨v183, v190, ha, Q_BK179, Q_BK181, Q_HB, Q_HO184, Q_HO191, Q_IS⟩ hb_ hon hoff
                refine ⟨_, rfl, fun K hK => ?_⟩
                have e30 : a.tmps[30]? = some (.string ((((t185 ++ t186) ++ t187) ++ t188) ++ t192)) := by rw [ha]; exact putSel_on (e := (20, 30, .string ((((t185 ++ t186) ++ t187) ++ t188) ++ t192))) 15 rfl rfl (hon 20 (by kernel_rfl)) rfl
                replace ha := Aside0.mk ha
                have BK179 := Aside0.mk Q_BK179
                have BK181 := Aside0.mk (Q_BK181 hb_)
                have HB := Aside0.mk Q_HB
                have HO184 := Aside0.mk (Q_HO184 (hon 2 (by kernel_rfl)) hb_)
                have HO191 := Aside0.mk (Q_HO191 (hon 18 (by kernel_rfl)) hb_)
                have e4 : a.tmps[4]? = some (.pointer (some ⟨gb181, 0, none⟩)) := by rw [ha.out]; exact (putSel_off rfl).trans rfl
                refine goes_ Try.func50 (by kernel_rfl) rfl #[.pointer (some ⟨gb181, 0, none⟩), .string ((((t185 ++ t186) ++ t187) ++ t188) ++ t192)] (by rfl) rfl rfl (by first | (simp only [List.map_toArray, List.map_cons, List.map_nil, Act.eval, Array.getD_eq_getD_getElem?, Option.getD_some, e30, e4]; done) | (simp only [List.map_toArray, List.map_cons, List.map_nil, Act.eval, Array.getD_eq_getD_getElem?, Option.getD_some, e30, e4]; rfl)) ?_
                refine (impl_TokenText.writeString w.heap.size gb181 [] ((((t185 ++ t186) ++ t187) ++ t188) ++ t192) _ (impl_TokenText.freshB GE181.out BK181.out) (by have := impl_TokenText.tail_le HT.out; simp only [List.length_nil]; omega) (below_size HB.out)).mono ?_
                rintro e w31 ⟨rfl, hB1, hb, hk⟩
                refine ⟨_, rfl, ?_⟩
                refine hK.out _ _ ⟨v183, v190, (by rw [ha.out]; exact putSel_upk 16 hb_ rfl rfl rfl), impl_TokenText.keptB hk BK179.out NB179_181.out (by decide), fun h_ => absurd (h_.symm.trans rfl : false = true) (by decide), HB.out.trans hb, fun _ h_ => absurd (h_.symm.trans rfl : false = true) (by decide), fun _ h_ => absurd (h_.symm.trans rfl : false = true) (by decide), fun _ => .inr hB1⟩
              exact steps_nil
            rintro b a w31 hall ⟨v183, v190, ha, Q_BK179, Q_BK181, Q_HB, Q_HO184, Q_HO191, Q_IS⟩
            clear BK179 BK181 HB
            have hb1_ := hall 1 (by kernel_rfl)
            have hb2_ := hall 2 (by kernel_rfl)
            have hb3_ := hall 3 (by kernel_rfl)
            have hb5_ := hall 5 (by kernel_rfl)
            have hb6_ := hall 6 (by kernel_rfl)
            have hb7_ := hall 7 (by kernel_rfl)
            have hb9_ := hall 9 (by kernel_rfl)
            have hb10_ := hall 10 (by kernel_rfl)
            have hb11_ := hall 11 (by kernel_rfl)
            have hb13_ := hall 13 (by kernel_rfl)
            have hb14_ := hall 14 (by kernel_rfl)
            have hb15_ := hall 15 (by kernel_rfl)
            have hb17_ := hall 17 (by kernel_rfl)
            have hb18_ := hall 18 (by kernel_rfl)
            have hb19_ := hall 19 (by kernel_rfl)
            have hb20_ := hall 20 (by kernel_rfl)
            have hb21_ := hall 21 (by kernel_rfl)
            subst ha
            simp only [putSel, hb1_, hb2_, hb3_, hb5_, hb6_, hb7_, hb9_, hb10_, hb11_, hb13_, hb14_, hb15_, hb17_, hb18_, hb19_, hb20_, hb21_, if_true, Act.put, List.setIfInBounds_toArray, List.set_cons_zero, List.set_cons_succ]
            have BK179 := Aside0.mk Q_BK179
            clear Q_BK179
            have IS := Aside0.mk (Q_IS hb21_)
            clear Q_BK181 Q_IS
            have HB := Aside0.mk Q_HB
            clear Q_HB
            clear Q_HO184
            clear Q_HO191
            clear hall hb1_ hb2_ hb3_ hb5_ hb6_ hb7_ hb9_ hb10_ hb11_ hb13_ hb14_ hb15_ hb17_ hb18_ hb19_ hb20_ hb21_
            have HT' := HT.out
            unfold impl_TokenText.tail at HT'
            split at HT'
            case isFalse => cases HT'
            rename_i hs1_
            obtain ⟨t6, A60, HT2⟩ := Option.bind_eq_some_iff.mp HT'
            split at HT2
            case isFalse => cases HT2
            rename_i hs2_
            obtain ⟨r, G0, Q0⟩ := Option.bind_eq_some_iff.mp HT2
            have A6 := Aside0.mk A60
            have HG := Aside0.mk G0
            have HQ := Aside0.mk Q0
            have HS1 := Aside0.mk hs1_
            have HS2 := Aside0.mk hs2_
            clear HT' HT2 A60 G0 Q0 hs1_ hs2_ HT
            have hx5 : w31.cell? ⟨gb179, 5, none⟩ = some (.slice A0_5 l0_5.length c0_5) := (blk_cell BK179.out 5).trans rfl
            go_wp2_with (first | (go_at_call 52; (with_reducible refine (impl_varText.calls k (l0_5.length : Int) t6 _ A6.out).mono ?_); rintro e w41 ⟨rfl, hb⟩; have n0_ := Aside0.mk (blk_below (g := gb179) BK179.out hb); have n1_ := Aside0.mk (impl_TokenText.belowB IS.out hb); have n2_ := Aside0.mk (below_step HB.out hb); clear BK179; clear IS; clear HB; have BK179 := n0_; have IS := n1_; have HB := n2_; clear n0_ n1_ n2_; clear hb) | (go_at_call 50; refine (impl_TokenText.writeString w.heap.size gb181 (Lib.strCells ((((t185 ++ t186) ++ t187) ++ t188) ++ t192)) t6 _ IS.out (by have := HS2.out; rw [Lib.strCells_length]; omega) (below_size HB.out)).mono ?_; rintro e w42 ⟨rfl, hB1, hb, hk⟩; have n0_ := Aside0.mk (impl_TokenText.keptB hk BK179.out NB179_181.out (by decide)); have n1_ := Aside0.mk (show Lib.IsBuilderF 63 5 w.heap.size gb181 (Lib.strCells (((((t185 ++ t186) ++ t187) ++ t188) ++ t192) ++ t6)) w42 from by rw [impl_TokenText.cells_app]; exact .inr hB1); have n2_ := Aside0.mk (HB.out.trans hb); clear BK179; clear IS; clear HB; have BK179 := n0_; have IS := n1_; have HB := n2_; clear n0_ n1_ n2_; clear hb hB1 hk; have hx6 : w42.cell? ⟨gb179, 5, none⟩ = some (.slice A0_5 l0_5.length c0_5) := (blk_cell BK179.out 5).trans rfl))
            go_loopg [40] l0_5.length (fun kq v40 w' => ∃ (j : Int) (s : ByteArray), v40 = .int .i64 j ∧ kq = l0_5.length - j.toNat ∧ Aside0 (0 ≤ j ∧ j ≤ (l0_5.length : Int)) ∧ Aside0 (impl_TokenText.go k (l0_5.drop j.toNat) s = some r) ∧ Aside0 (s.size ≤ 1000000) ∧ Aside0 (w'.heap[gb179]? = some (.cells #[.int .i64 a0_0, .int .i64 a0_1, .int .i64 a0_2, .int .i64 a0_3, .int .i64 a0_4, .slice A0_5 l0_5.length c0_5] 37 (0, 0))) ∧ Aside0 (Lib.IsBuilderF 63 5 w.heap.size gb181 (Lib.strCells s) w') ∧ Aside0 (Below w.heap.size w w'))
            case atStart => exact ⟨0, ((((t185 ++ t186) ++ t187) ++ t188) ++ t192) ++ t6, rfl, by simp, ⟨by omega⟩, ⟨by simpa using HG.out⟩, ⟨by have := HS2.out; rw [ByteArray.size_append]; exact this⟩, ⟨BK179.out⟩, ⟨IS.out⟩, ⟨HB.out⟩⟩
            case round =>
              clear BK179 IS HB HG
              obtain ⟨j, s, rfl, rfl, hj, HG, HS3, BK179, IS, HB⟩ := hrel
              have hj0 := hj.out.1
              have hj1 := hj.out.2
              have hn1 := HS1.out.2
              by_cases c : j < (l0_5.length : Int)
              · have dc0 : decide (j < (l0_5.length : Int)) = true := decide_eq_true c
                have hw1 : IntKind.i64.wrap (j + 1) = j + 1 := by rw [IntKind.wrap_i64]; omega
                have hjl : j.toNat < l0_5.length := by omega
                have hd : l0_5.drop j.toNat = rd l0_5 j :: l0_5.drop (j.toNat + 1) := by
                  rw [List.drop_eq_getElem_cons hjl]
                  unfold rd
                  rw [List.getD_eq_getElem?_getD, List.getElem?_eq_getElem hjl]; rfl
                have hg2 := HG.out
                rw [hd] at hg2
                unfold impl_TokenText.go at hg2
                obtain ⟨t7, A70, hg3⟩ := Option.bind_eq_some_iff.mp hg2
                split at hg3
                case isFalse => cases hg3
                rename_i hs7_
                have A7 := Aside0.mk A70
                have HG7 := Aside0.mk hg3
                have HS7 := Aside0.mk hs7_
                have HJ := Aside0.mk (And.intro hj0 hjl)
                obtain ⟨ad7, e7, hx7⟩ := Kd.at_int HR0_5.out j hj0 c
                cases e7
                replace hx7 := (HB.out.cell (World.block_lt_of_cell? w _ hx7)).trans hx7
                have p7 := eq_true hj0
                have q7 := eq_true c
                clear hg2 hg3 A70 hs7_ hd hj0 hj1 hj hn1 hjl HG
                go_wp2_with (first | (go_at_call 52; (with_reducible refine (impl_varText.calls k (rd l0_5 j) t7 _ A7.out).mono ?_); rintro e w43 ⟨rfl, hb⟩; have n0_ := Aside0.mk (blk_below (g := gb179) BK179.out hb); have n1_ := Aside0.mk (impl_TokenText.belowB IS.out hb); have n2_ := Aside0.mk (below_step HB.out hb); clear BK179; clear IS; clear HB; have BK179 := n0_; have IS := n1_; have HB := n2_; clear n0_ n1_ n2_; clear hb) | (go_at_call 50; refine (impl_TokenText.writeString w.heap.size gb181 (Lib.strCells s) t7 _ IS.out (by have := HS7.out; rw [Lib.strCells_length]; omega) (below_size HB.out)).mono ?_; rintro e w44 ⟨rfl, hB1, hb, hk⟩; have n0_ := Aside0.mk (impl_TokenText.keptB hk BK179.out NB179_181.out (by decide)); have n1_ := Aside0.mk (show Lib.IsBuilderF 63 5 w.heap.size gb181 (Lib.strCells (s ++ t7)) w44 from by rw [impl_TokenText.cells_app]; exact .inr hB1); have n2_ := Aside0.mk (HB.out.trans hb); clear BK179; clear IS; clear HB; have BK179 := n0_; have IS := n1_; have HB := n2_; clear n0_ n1_ n2_; clear hb hB1 hk))
                go_roundg (l0_5.length - (j + 1).toNat)
                case measure => have := HJ.out; omega
                case rel => exact ⟨j + 1, s ++ t7, by first | rfl | rw [hw1], rfl, ⟨by have := HJ.out; omega⟩, ⟨by rw [show (j + 1).toNat = j.toNat + 1 by have := HJ.out; omega]; exact HG7.out⟩, ⟨by have := HS7.out; rw [ByteArray.size_append]; exact this⟩, ⟨BK179.out⟩, ⟨IS.out⟩, ⟨HB.out⟩⟩
              · have dc0 : decide (j < (l0_5.length : Int)) = false := decide_eq_false c
                have hjn : j.toNat = l0_5.length := by omega
                have hg2 := HG.out
                rw [hjn, List.drop_length] at hg2
                unfold impl_TokenText.go at hg2
                obtain rfl := Option.some.inj hg2
                clear hg2
                go_wp2_with (first | (go_at_call 53; refine (Try.Builder_String_any_f w.heap.size gb181 s.data.toList _ (by have h_ := IS.out; rw [Lib.strCells_eq] at h_; exact h_) (below_size HB.out)).mono ?_; rintro e w51 ⟨rfl, _, hb⟩; have n2_ := Aside0.mk (HB.out.trans hb); clear HB; have HB := n2_; clear n2_; clear hb) | (go_at_call 26; refine (impl_Sealed.calls k s r1 r2 _ HQ.out).mono ?_; rintro e w52 ⟨rfl, hb⟩; have n2_ := Aside0.mk (below_step HB.out hb); clear HB; have HB := n2_; clear n2_; clear hb))
                go_ret2
                exact ⟨by first | rfl | (simp [*] <;> rfl), HB.out⟩

          · rw [if_neg c12] at H
            exact absurd H (by simp)
        · rw [if_neg c10] at H
          exact absurd H (by simp)
      · rw [if_neg c8] at H
        exact absurd H (by simp)
    · rw [if_neg c6] at H
      exact absurd H (by simp)
  · replace c3 := Bool.eq_false_iff.mpr c3
    subst c3
    have H1 : (some ((⟨#[]⟩ : ByteArray), false)) = some (r1, r2) := by rw [if_neg (show ¬ (false = true) by decide)] at H; exact H
    clear H
    have H := H1
    clear H1
    simp only [Option.some.injEq, Prod.mk.injEq] at H
    obtain ⟨rfl, rfl⟩ := H
    go_enter Try.func22, Try.ntmps22
    go_wp2_with (first | ((with_reducible refine gate_dst (N := 1) rfl ?_); refine box_event ?hg (N := 1) ?hd (cs := #[.int .i64 a0_0, .int .i64 a0_1, .int .i64 a0_2, .int .i64 a0_3, .int .i64 a0_4, .slice A0_5 l0_5.length c0_5]) (t := 37) ?hr ?_; (case hd => rfl); (case hg => rfl); (case hr => first | (go_simp; done) | (go_simp; rfl)); intro gb179 hg w34 hbox hb; have n0_ := Aside0.mk (below_step (by repeat (first | (with_reducible first | exact HB.out | apply below_alloc | apply pw_below_drewN | apply below_drew1) | exact HB.out)) hb); have n1_ := Aside0.mk (hbox); have n2_ := Aside0.mk ((by rw [hg]; exact (below_size (by repeat (first | (with_reducible first | exact HB.out | apply below_alloc | apply pw_below_drewN | apply below_drew1) | exact HB.out))) : w.heap.size ≤ gb179)); have n3_ := Aside0.mk ((by rw [hg]; exact (below_size (by repeat (first | (with_reducible first | exact HB.out | apply below_alloc | apply pw_below_drewN | apply below_drew1) | exact HB.out))) : w.heap.size ≤ gb179)); clear HB; have HB := n0_; have BK179 := n1_; have GW179 := n2_; have GE179 := n3_; clear n0_ n1_ n2_ n3_; clear hb hbox hg; have hcz35_0 : w34.cell? ⟨gb179, 0, none⟩ = some (.int .i64 a0_0) := (blk_cell BK179.out 0).trans rfl; have hcz35_1 : w34.cell? ⟨gb179, 1, none⟩ = some (.int .i64 a0_1) := (blk_cell BK179.out 1).trans rfl; have hcz35_2 : w34.cell? ⟨gb179, 2, none⟩ = some (.int .i64 a0_2) := (blk_cell BK179.out 2).trans rfl; have hcz35_3 : w34.cell? ⟨gb179, 3, none⟩ = some (.int .i64 a0_3) := (blk_cell BK179.out 3).trans rfl; have hcz35_4 : w34.cell? ⟨gb179, 4, none⟩ = some (.int .i64 a0_4) := (blk_cell BK179.out 4).trans rfl; have hcz35_5 : w34.cell? ⟨gb179, 5, none⟩ = some (.slice A0_5 l0_5.length c0_5) := (blk_cell BK179.out 5).trans rfl; have hfz35_0 := blk_frozen BK179.out 0; have hfz35_1 := blk_frozen BK179.out 1; have hfz35_2 := blk_frozen BK179.out 2; have hfz35_3 := blk_frozen BK179.out 3; have hfz35_4 := blk_frozen BK179.out 4; have hfz35_5 := blk_frozen BK179.out 5) | ((with_reducible refine gate_callee (f := 49) rfl ?_); refine goesL_ (some 8) rfl rfl Try.func49 (by kernel_rfl) rfl #[.agg #[.int .i64 a0_0, .int .i64 a0_1, .int .i64 a0_2, .int .i64 a0_3, .int .i64 a0_4, .slice A0_5 l0_5.length c0_5]] rfl (by (try simp only [List.map_toArray, List.map_cons, List.map_nil]); first | done | rfl | (simp only [List.length_drop, List.length_take]; rfl)) ?_; (with_reducible refine (impl_TokenOk.calls k a0_0 a0_1 a0_2 a0_3 a0_4 _ _ l0_5 false _ ?side1 ?side2 A2.out).mono ?_); (case side1 => repeat (first | exact (Kd.C_below HR0_5.out HB.out) | (with_reducible refine Kd.C_alloc ?_ _) | (with_reducible refine Kd.C_drewN ?_ _) | (with_reducible refine Kd.C_drew ?_))); (case side2 => exact HC0_5.out); rintro e w36 ⟨rfl, hb⟩; refine ⟨_, rfl, ?_⟩; have n0_ := Aside0.mk (blk_below (g := gb179) (o := .cells #[.int .i64 a0_0, .int .i64 a0_1, .int .i64 a0_2, .int .i64 a0_3, .int .i64 a0_4, .slice A0_5 l0_5.length c0_5] 37 (0, 0)) (by (with_reducible repeat (first | refine blk_drewN ?_ _ | refine blk_drew ?_ | refine blk_alloc ?_ _)); exact BK179.out) hb); have n1_ := Aside0.mk (below_step (by repeat (first | (with_reducible first | exact HB.out | apply below_alloc | apply pw_below_drewN | apply below_drew1 | refine below_set ?_ GE179.out) | exact HB.out)) hb); clear BK179; clear HB; have BK179 := n0_; have HB := n1_; clear n0_ n1_; (try clear hb); (try clear hb2); (try clear hk); (try clear hi)))
    go_ret2
    exact ⟨by first | rfl | (simp [errW_none, errW_some] <;> rfl) | (simp [*, errW_none, errW_some] <;> rfl), by repeat (first | (with_reducible first | exact HB.out | apply below_alloc | apply pw_below_drewN | apply below_drew1 | refine below_set ?_ GE179.out) | exact HB.out)⟩

end Go.Proofs.Ytfakkehopmihoaa.PFnExactTokenText
