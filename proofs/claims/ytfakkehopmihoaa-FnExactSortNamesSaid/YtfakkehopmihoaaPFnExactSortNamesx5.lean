-- Written by a program out of the translation, for this claim.
import Derived.Test.YtfakkehopmihoaaPFnExactSortNamesx0
import Derived.Test.YtfakkehopmihoaaPFnExactSortNamesx4
namespace Go.Proofs.Ytfakkehopmihoaa.PFnExactSortNames
open Go.RowKit Go.Proofs.YtfakkehopmihoaaW.PrintWords Go.Proofs.YtfakkehopmihoaaW.PrintLast Go.Proofs.YtfakkehopmihoaaW.PrintMore
attribute [local go_sem] binOp_gtr_str binOp_geq_str max2_int min2_int max_two min_two max_three min_three max_four min_four   -- for this text's walks alone
set_option linter.unusedVariables false
set_option linter.unusedSimpArgs false

/-! ### slices_Sort_string_string: function 36, by hand -/
def slices_Sort_string_string.f (l0 : List ByteArray) : Option (List ByteArray) := if l0.length < 4611686018427387904 then some (((l0.map fun x => x.data.toList).mergeSort fun x y => decide (x ≤ y)).map fun x => ⟨x.toArray⟩) else none
theorem slices_Sort_string_string.enc (l : List (List UInt8)) : l.map encStr = encs Value.string (l.map fun x => (⟨x.toArray⟩ : ByteArray)) := by simp [encs, encStr]
theorem slices_Sort_string_string.enc0 (l : List ByteArray) : encs Value.string l = (l.map fun x => x.data.toList).map encStr := by simp [encs, encStr]
theorem slices_Sort_string_string.grownBy {w : World} {g n : Nat} {os : Array Obj} (d : Array (List UInt8)) : w.grownBy (Go.Sort.grow (Go.Sort.putRow encStr (Go.Sort.ahead w n) g 0 d) os) (some g) := grownBy_sorted d
theorem slices_Sort_string_string.owns {w : World} {base g cap n k : Nat} {e : TypeId} {os : Array Obj} {cur : Array Value} {ts : List (List UInt8)} (hl : ts.length = k) (hbase : base ≤ g) (hb : w.heap[g]? = some (.cells cur e (0, 0)))
    (h1 : k ≤ cap) (h2 : cap ≤ maxLen) (h3 : cap * 1 ≤ cur.size) :
    (Go.Sort.grow (Go.Sort.putRow encStr (Go.Sort.ahead w n) g 0 ts.toArray) os).ownsRowW base e 1 (.slice (some ⟨g, 0, none⟩) k cap) k (ts.map encStr) :=
  ⟨by simp [hl], .inr ⟨g, cap, _, rfl, hbase, heap_sorted _ hb, h1, h2, by simpa [Go.Sort.putCells] using h3, by rw [Nat.mul_one, ← hl]; exact take_putCells cur ts (by omega)⟩⟩
theorem slices_Sort_string_string.calls (P0_ : Nat → Prop) (u9000_ : Value) (l0 : List ByteArray) (r : List ByteArray) (w0 w : World) (hB : Below w0.heap.size w0 w) (ho0 : Kd.R Kd.string 9 w w0.heap.size P0_ u9000_ l0) (h : slices_Sort_string_string.f l0 = some r) :
    Calls Try.prog 36 #[u9000_] w fun e w' => e = .returned (.tuple #[]) ∧ Kd.R Kd.string 9 w' w0.heap.size (fun k_ => (P0_ k_ ∨ w.heap.size ≤ k_)) u9000_ r ∧ Below w0.heap.size w0 w' ∧ Kept w w' (fun k_ => P0_ k_) := by
  unfold slices_Sort_string_string.f at h
  have hlen : l0.length < 4611686018427387904 := by
    rcases Nat.lt_or_ge l0.length 4611686018427387904 with h1 | h1
    · exact h1
    · rw [if_neg (by omega)] at h; cases h
  rw [if_pos hlen] at h
  obtain rfl := Option.some.inj h
  have hok := ho0.1
  have hown := Kd.own_of_R ho0
  rcases hown.2 with ⟨rfl, h0⟩ | ⟨g, cap, cur, rfl, hbase, hheap, hn, hm, hs, ht⟩
  · obtain rfl : l0 = [] := List.eq_nil_of_length_eq_zero h0
    refine (Try.slices_Sort_string_none none 0 w).mono ?_
    rintro e w' ⟨rfl, rfl⟩
    exact ⟨rfl, by rw [List.map_nil, List.mergeSort_nil, List.map_nil]; exact Kd.R_nil _ _ _ _ _, hB, Kept.refl _ _⟩
  · have hP : P0_ g := hok g rfl
    rw [slices_Sort_string_string.enc0, Nat.mul_one] at ht
    have ht' : cur.toList.take (l0.map fun x => x.data.toList).length = (l0.map fun x => x.data.toList).map encStr := by rw [List.length_map]; exact ht
    have hc := Try.slices_Sort_string g 0 cap (l0.map fun x => x.data.toList) w (holds_of_block hheap ht') (Array.getElem?_eq_some_iff.1 hheap).1 (by rw [List.length_map]; exact hlen)
    rw [List.length_map] at hc
    refine hc.mono ?_
    rintro e w' ⟨rfl, n, os, rfl⟩
    generalize hts : ((l0.map fun x => x.data.toList).mergeSort fun x y => decide (x ≤ y)) = ts
    have hl : ts.length = l0.length := by rw [← hts, List.length_mergeSort, List.length_map]
    have hg := slices_Sort_string_string.grownBy (w := w) (g := g) (n := n) (os := os) ts.toArray
    refine ⟨rfl, Kd.R_of_own ?_ (fun k hk => ?_), hB.grown hg hB.size (fun k hk => ?_), Kept.of_grown hg (Kept.refl _ _) (fun k hk => ?_)⟩
    · have h9 := slices_Sort_string_string.owns (n := n) (os := os) hl hbase hheap hn hm (by first | exact hs | exact Nat.le_of_eq hs.symm)
      rw [slices_Sort_string_string.enc] at h9
      rw [List.length_map, hl]
      exact h9
    · cases hk; exact .inl hP
    · cases hk; exact hbase
    · cases hk; exact .inl hP

/-! ### slices_Clip_string_string: function 37, by hand -/
def slices_Clip_string_string.f (l0 : List ByteArray) : Option (List ByteArray) := some l0
set_option maxRecDepth 100000 in
theorem slices_Clip_string_string.clips (A : Option Addr) (n c : Nat) (w : World) (hn : n ≤ c) (hc : c ≤ 9223372036854775807) :
    Calls Try.prog 37 #[.slice A n c] w fun e w' => e = .returned (.slice A n n) ∧ w' = w := by
  go_enter Try.func37, Try.ntmps37
  go_wp2
  go_ret
  exact ⟨rfl, rfl⟩
theorem slices_Clip_string_string.calls (P0_ : Nat → Prop) (u9000_ : Value) (l0 : List ByteArray) (r : List ByteArray) (w0 w : World) (hB : Below w0.heap.size w0 w) (ho0 : Kd.R Kd.string 9 w w0.heap.size P0_ u9000_ l0) (h : slices_Clip_string_string.f l0 = some r) :
    Calls Try.prog 37 #[u9000_] w fun e w' => ∃ v0_ : Value, e = .returned (v0_) ∧ Kd.R Kd.string 9 w' w0.heap.size (fun k_ => (P0_ k_ ∨ w.heap.size ≤ k_)) v0_ r ∧ Below w0.heap.size w0 w' ∧ Kept w w' (fun k_ => P0_ k_) := by
  obtain rfl := Option.some.inj h
  have hok := ho0.1
  have hown := Kd.own_of_R ho0
  rcases hown.2 with ⟨rfl, h0⟩ | ⟨g, cap, cur, rfl, hbase, hheap, hn, hm, hs, ht⟩
  · obtain rfl : l0 = [] := List.eq_nil_of_length_eq_zero h0
    refine (slices_Clip_string_string.clips none 0 0 w (Nat.le_refl _) (by omega)).mono ?_
    rintro e w' ⟨rfl, rfl⟩
    exact ⟨_, rfl, Kd.R_nil _ _ _ _ _, hB, Kept.refl _ _⟩
  · have hP : P0_ g := hok g rfl
    have hmx : maxLen = 9223372036854775807 := rfl
    refine (slices_Clip_string_string.clips (some ⟨g, 0, none⟩) l0.length cap w hn (by omega)).mono ?_
    rintro e w' ⟨rfl, rfl⟩
    refine ⟨_, rfl, Kd.R_of_own ⟨hown.1, .inr ⟨g, l0.length, cur, rfl, hbase, hheap, Nat.le_refl _, by omega, by omega, ht⟩⟩ (fun k hk => ?_), hB, Kept.refl _ _⟩
    cases hk; exact .inl hP

/-! ### slices_Compact_string_string: function 38, by hand -/
def slices_Compact_string_string.f (l0 : List ByteArray) : Option (List ByteArray) := some ((Lib.compact (l0.map fun x => x.data.toList)).map fun x => ⟨x.toArray⟩)
theorem slices_Compact_string_string.enc (l : List (List UInt8)) : l.map encStr = encs Value.string (l.map fun x => (⟨x.toArray⟩ : ByteArray)) := by simp [encs, encStr]
theorem slices_Compact_string_string.enc0 (l : List ByteArray) : encs Value.string l = (l.map fun x => x.data.toList).map encStr := by simp [encs, encStr]
theorem slices_Compact_string_string.grownBy {w : World} {g n : Nat} {os : Array Obj} (d : Array (List UInt8)) : w.grownBy (Go.Sort.grow (Go.Sort.putRow encStr (Go.Sort.ahead w n) g 0 d) os) (some g) := grownBy_sorted d
theorem slices_Compact_string_string.owns {w : World} {base g cap n k : Nat} {e : TypeId} {os : Array Obj} {cur : Array Value} {ts : List (List UInt8)} (hl : ts.length = k) (hbase : base ≤ g) (hb : w.heap[g]? = some (.cells cur e (0, 0)))
    (h1 : k ≤ cap) (h2 : cap ≤ maxLen) (h3 : cap * 1 ≤ cur.size) :
    (Go.Sort.grow (Go.Sort.putRow encStr (Go.Sort.ahead w n) g 0 ts.toArray) os).ownsRowW base e 1 (.slice (some ⟨g, 0, none⟩) k cap) k (ts.map encStr) :=
  ⟨by simp [hl], .inr ⟨g, cap, _, rfl, hbase, heap_sorted _ hb, h1, h2, by simpa [Go.Sort.putCells] using h3, by rw [Nat.mul_one, ← hl]; exact take_putCells cur ts (by omega)⟩⟩
theorem slices_Compact_string_string.calls (P0_ : Nat → Prop) (u9000_ : Value) (l0 : List ByteArray) (r : List ByteArray) (w0 w : World) (hB : Below w0.heap.size w0 w) (ho0 : Kd.R Kd.string 9 w w0.heap.size P0_ u9000_ l0) (h : slices_Compact_string_string.f l0 = some r) :
    Calls Try.prog 38 #[u9000_] w fun e w' => ∃ v0_ : Value, e = .returned (v0_) ∧ Kd.R Kd.string 9 w' w0.heap.size (fun k_ => (P0_ k_ ∨ w.heap.size ≤ k_)) v0_ r ∧ Below w0.heap.size w0 w' ∧ Kept w w' (fun k_ => P0_ k_) := by
  obtain rfl := Option.some.inj h
  have hok := ho0.1
  have hown := Kd.own_of_R ho0
  rcases hown.2 with ⟨rfl, h0⟩ | ⟨g, cap, cur, rfl, hbase, hheap, hn, hm, hs, ht⟩
  · obtain rfl : l0 = [] := List.eq_nil_of_length_eq_zero h0
    refine (Try.slices_Compact_string_empty none 0 w).mono ?_
    rintro e w' ⟨rfl, rfl⟩
    exact ⟨_, rfl, Kd.R_nil _ _ _ _ _, hB, Kept.refl _ _⟩
  · have hP : P0_ g := hok g rfl
    have hmx : maxLen = 9223372036854775807 := rfl
    rw [slices_Compact_string_string.enc0, Nat.mul_one] at ht
    have ht' : cur.toList.take (l0.map fun x => x.data.toList).length = (l0.map fun x => x.data.toList).map encStr := by rw [List.length_map]; exact ht
    have hc := Try.slices_Compact_string g 0 cap (l0.map fun x => x.data.toList) w (holds_of_block hheap ht') (by rw [List.length_map]; omega) (by rw [List.length_map]; exact hn)
    rw [List.length_map] at hc
    refine hc.mono ?_
    rintro e w' ⟨rfl, q, rfl⟩
    have hle := Lib.compact_length_le (l0.map fun x => x.data.toList)
    rw [List.length_map] at hle
    generalize hC : Lib.compact (l0.map fun x => x.data.toList) = C at hle ⊢
    generalize hD : C ++ List.replicate (l0.length - C.length) [] = D
    have hl : D.length = l0.length := by rw [← hD]; simp; omega
    have e0 : Go.Sort.putRow encStr (Go.Sort.ahead w q) g 0 D.toArray = Go.Sort.grow (Go.Sort.putRow encStr (Go.Sort.ahead w q) g 0 D.toArray) #[] := (Go.Sort.grow_empty _).symm
    rw [e0]
    have hg := slices_Compact_string_string.grownBy (w := w) (g := g) (n := q) (os := #[]) D.toArray
    refine ⟨_, rfl, Kd.R_of_own ?_ (fun k hk => ?_), hB.grown hg hB.size (fun k hk => ?_), Kept.of_grown hg (Kept.refl _ _) (fun k hk => ?_)⟩
    · have h9 := slices_Compact_string_string.owns (n := q) (os := #[]) hl hbase hheap hn hm (by first | exact hs | exact Nat.le_of_eq hs.symm)
      have h8 := own_take h9 (m := C.length) hle
      rw [← hD] at h8 ⊢
      rw [Nat.mul_one, List.map_append, List.take_left' (by simp), slices_Compact_string_string.enc] at h8
      rw [List.length_map]
      exact h8
    · cases hk; exact .inl hP
    · cases hk; exact hbase
    · cases hk; exact .inl hP

/-! ### impl_SortNames: function 11 -/
def impl_SortNames.f (l0 : List ByteArray) : Option (List ByteArray) := (slices_Clone_string_string.f l0).bind fun t136 => ((slices_Sort_string_string.f t136).bind fun t139 => ((slices_Compact_string_string.f t139).bind fun t140 => ((slices_Clip_string_string.f t140).bind fun t143 => (some t143))))
set_option maxHeartbeats 8000000 in
set_option maxRecDepth 100000 in
theorem impl_SortNames.calls (A0 : Option Addr) (c0 : Nat) (l0 : List ByteArray) (r : List ByteArray) (w : World) (hr0 : Kd.C Kd.string w A0 l0.length l0) (hc0 : l0.length ≤ c0) (h : impl_SortNames.f l0 = some r) :
    Calls Try.prog 11 #[.slice A0 l0.length c0] w fun e w' => ∃ v0_ : Value, e = .returned (v0_) ∧ Kd.R Kd.string 9 w' w.heap.size (fun _ => True) v0_ r ∧ Below w.heap.size w w' := by
  have HR0 := Aside0.mk hr0
  have HC0 := Aside0.mk hc0
  clear hr0 hc0
  have HB := Aside0.mk (Below.refl w.heap.size w)
  have H : ((slices_Clone_string_string.f l0).bind fun t136 => ((slices_Sort_string_string.f t136).bind fun t139 => ((slices_Compact_string_string.f t139).bind fun t140 => ((slices_Clip_string_string.f t140).bind fun t143 => (some t143))))) = some r := h
  clear h
  replace H := Option.bind_eq_some_iff.mp H
  obtain ⟨t136, A20, H⟩ := H
  replace H : ((slices_Sort_string_string.f t136).bind fun t139 => ((slices_Compact_string_string.f t139).bind fun t140 => ((slices_Clip_string_string.f t140).bind fun t143 => (some t143)))) = some r := H
  have A2 := Aside0.mk A20
  clear A20
  replace H := Option.bind_eq_some_iff.mp H
  obtain ⟨t139, A30, H⟩ := H
  replace H : ((slices_Compact_string_string.f t139).bind fun t140 => ((slices_Clip_string_string.f t140).bind fun t143 => (some t143))) = some r := H
  have A3 := Aside0.mk A30
  clear A30
  replace H := Option.bind_eq_some_iff.mp H
  obtain ⟨t140, A40, H⟩ := H
  replace H : ((slices_Clip_string_string.f t140).bind fun t143 => (some t143)) = some r := H
  have A4 := Aside0.mk A40
  clear A40
  replace H := Option.bind_eq_some_iff.mp H
  obtain ⟨t143, A50, H⟩ := H
  replace H : (some t143) = some r := H
  have A5 := Aside0.mk A50
  clear A50
  obtain rfl := Option.some.inj H
  go_enter Try.func11, Try.ntmps11
  go_wp2_with (first | ((with_reducible refine gate_callee (f := 35) rfl ?_); refine goesL_ (some 5) rfl rfl Try.func35 (by kernel_rfl) rfl #[.slice A0 l0.length c0] rfl (by (try simp only [List.map_toArray, List.map_cons, List.map_nil]); first | done | rfl | (simp only [List.length_drop, List.length_take]; rfl)) ?_; (with_reducible refine (slices_Clone_string_string.calls _ _ l0 t136 _ ?side1 ?side2 A2.out).mono ?_); (case side1 => repeat (first | exact HR0.out | (with_reducible refine Kd.C_alloc ?_ _) | (with_reducible refine Kd.C_drewN ?_ _) | (with_reducible refine Kd.C_drew ?_))); (case side2 => exact HC0.out); rintro e w6 ⟨v137, rfl, ho0, hb⟩; refine ⟨_, rfl, ?_⟩; have n0_ := Aside0.mk (Kd.R_lower ho0 (below_size (by repeat (first | (with_reducible first | exact HB.out | apply below_alloc | apply pw_below_drewN | apply below_drew1) | exact HB.out)))); have n1_ := Aside0.mk (below_step (by repeat (first | (with_reducible first | exact HB.out | apply below_alloc | apply pw_below_drewN | apply below_drew1) | exact HB.out)) hb); clear HB; have HO138 := n0_; have HB := n1_; clear n0_ n1_; (try clear hb); (try clear hb2); (try clear hk); (try clear hi); (try clear ho0); obtain ⟨Ao7, co7, eo7⟩ := Kd.R_slice HO138.out; subst eo7) | ((with_reducible refine gate_callee (f := 36) rfl ?_); refine goesL_ (some 7) rfl rfl Try.func36 (by kernel_rfl) rfl #[.slice Ao7 t136.length co7] rfl (by (try simp only [List.map_toArray, List.map_cons, List.map_nil]); first | done | rfl | (simp only [List.length_drop, List.length_take]; rfl)) ?_; (with_reducible refine (slices_Sort_string_string.calls (fun k_ => some k_ = (.slice Ao7 t136.length co7 : Value).ownBlock) (.slice Ao7 t136.length co7) t136 t139 w _ ?side1 ?side2 A3.out).mono ?_); (case side1 => repeat (first | (with_reducible first | exact HB.out | apply below_alloc | apply pw_below_drewN | apply below_drew1) | exact HB.out)); (case side2 => exact Kd.R_tight rfl HO138.out); rintro e w8 ⟨rfl, hy0, hb, hkp⟩; refine ⟨_, rfl, ?_⟩; have n0_ := Aside0.mk (Kd.R_reok rfl hy0 (fun k_ e_ => HO138.out.1 k_ e_)); have n1_ := Aside0.mk (hb); clear HO138; clear HB; have HO138 := n0_; have HB := n1_; clear n0_ n1_; (try clear hb); (try clear hkp); (try clear hy0)) | ((with_reducible refine gate_callee (f := 38) rfl ?_); refine goesL_ (some 9) rfl rfl Try.func38 (by kernel_rfl) rfl #[.slice Ao7 t136.length co7] rfl (by (try simp only [List.map_toArray, List.map_cons, List.map_nil]); first | done | rfl | (simp only [List.length_drop, List.length_take]; rfl)) ?_; (with_reducible refine (slices_Compact_string_string.calls (fun k_ => some k_ = (.slice Ao7 t136.length co7 : Value).ownBlock) (.slice Ao7 t136.length co7) t139 t140 w _ ?side1 ?side2 A4.out).mono ?_); (case side1 => repeat (first | (with_reducible first | exact HB.out | apply below_alloc | apply pw_below_drewN | apply below_drew1) | exact HB.out)); (case side2 => exact Kd.R_tight rfl HO138.out); rintro e w9 ⟨v141, rfl, ho0, hb, hkp⟩; refine ⟨_, rfl, ?_⟩; have n0_ := Aside0.mk (Kd.R_mono (ok' := fun k_ => True) ho0 (fun k_ hk_ => trivial)); have n1_ := Aside0.mk (hb); clear HB; clear HO138; have HO142 := n0_; have HB := n1_; clear n0_ n1_; (try clear hb); (try clear hkp); (try clear ho0); obtain ⟨Ao10, co10, eo10⟩ := Kd.R_slice HO142.out; subst eo10) | ((with_reducible refine gate_callee (f := 37) rfl ?_); refine goesL_ (some 10) rfl rfl Try.func37 (by kernel_rfl) rfl #[.slice Ao10 t140.length co10] rfl (by (try simp only [List.map_toArray, List.map_cons, List.map_nil]); first | done | rfl | (simp only [List.length_drop, List.length_take]; rfl)) ?_; (with_reducible refine (slices_Clip_string_string.calls (fun k_ => some k_ = (.slice Ao10 t140.length co10 : Value).ownBlock) (.slice Ao10 t140.length co10) t140 t143 w _ ?side1 ?side2 A5.out).mono ?_); (case side1 => repeat (first | (with_reducible first | exact HB.out | apply below_alloc | apply pw_below_drewN | apply below_drew1) | exact HB.out)); (case side2 => exact Kd.R_tight rfl HO142.out); rintro e w11 ⟨v144, rfl, ho0, hb, hkp⟩; refine ⟨_, rfl, ?_⟩; have n0_ := Aside0.mk (Kd.R_mono (ok' := fun k_ => True) ho0 (fun k_ hk_ => trivial)); have n1_ := Aside0.mk (hb); clear HB; clear HO142; have HO145 := n0_; have HB := n1_; clear n0_ n1_; (try clear hb); (try clear hkp); (try clear ho0)))
  go_ret
  exact ⟨_, by first | rfl | (simp [errW_none, errW_some] <;> rfl) | (simp [*, errW_none, errW_some] <;> rfl), by (with_reducible repeat (first | apply Kd.R_alloc | apply Kd.R_drewN | apply Kd.R_drew)); exact HO145.out, by repeat (first | (with_reducible first | exact HB.out | apply below_alloc | apply pw_below_drewN | apply below_drew1) | exact HB.out)⟩

end Go.Proofs.Ytfakkehopmihoaa.PFnExactSortNames
