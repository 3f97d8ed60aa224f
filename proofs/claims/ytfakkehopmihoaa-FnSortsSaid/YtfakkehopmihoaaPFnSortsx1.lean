-- Written by a program out of the translation, for this claim.
import Derived.Test.YtfakkehopmihoaaPFnSortsx0
namespace Go.Proofs.Ytfakkehopmihoaa.PFnSorts
open Go.RowKit Go.Proofs.YtfakkehopmihoaaW.PrintWords Go.Proofs.YtfakkehopmihoaaW.PrintLast Go.Proofs.YtfakkehopmihoaaW.PrintMore
attribute [local go_sem] binOp_gtr_str binOp_geq_str max2_int min2_int max_two min_two max_three min_three max_four min_four   -- for this text's walks alone
set_option linter.unusedVariables false
set_option linter.unusedSimpArgs false

/-! ### slices_Clone_string_string: function 35 -/
def slices_Clone_string_string.f (l0 : List ByteArray) : Option (List ByteArray) := (some (([] : List ByteArray) : List ByteArray)).bind fun y101 => (if y101.length + l0.length < 8796093022208 then (some (y101 ++ l0)) else (none))
set_option maxHeartbeats 8000000 in
set_option maxRecDepth 100000 in
theorem slices_Clone_string_string.calls (A0 : Option Addr) (c0 : Nat) (l0 : List ByteArray) (r : List ByteArray) (w : World) (hr0 : Kd.C Kd.string w A0 l0.length l0) (hc0 : l0.length ≤ c0) (h : slices_Clone_string_string.f l0 = some r) :
    Calls Try.prog 35 #[.slice A0 l0.length c0] w fun e w' => ∃ v0_ : Value, e = .returned (v0_) ∧ Kd.R Kd.string 9 w' w.heap.size (fun _ => True) v0_ r ∧ Below w.heap.size w w' := by
  by_cases hnil_ : A0 = none
  · subst hnil_
    have e0_ : l0 = [] := by
      rcases Nat.eq_zero_or_pos l0.length with hz_ | hz_
      · exact List.eq_nil_of_length_eq_zero hz_
      · obtain ⟨ad_, he_, _⟩ := hr0.2.2 hz_; cases he_
    subst e0_
    simp [slices_Clone_string_string.f] at h
    subst h
    have hq_ : ∀ (w : World) (a : Option Addr) (n c n' c' : Nat), (binOp .eql 22 (.slice a n c) (.slice none n' c')).run Try.prog w = .ok (.bool a.isNone) w := fun w a n c n' c' => Lib.run_eql_slice_nil w _ _ a n c n' c' Try.underlying22
    go_enter Try.func35, Try.ntmps35
    go_wp2
    go_ret
    exact ⟨_, rfl, Kd.R_nil _ _ _ _ _, Below.refl _ _⟩
  have hnn_ : A0.isNone = false := by
    cases hA_ : A0 with
    | none => exact absurd hA_ hnil_
    | some _ => rfl
  clear hnil_
  have hq_ : ∀ (w : World) (a : Option Addr) (n c n' c' : Nat), (binOp .eql 22 (.slice a n c) (.slice none n' c')).run Try.prog w = .ok (.bool a.isNone) w := fun w a n c n' c' => Lib.run_eql_slice_nil w _ _ a n c n' c' Try.underlying22
  have HR0 := Aside0.mk hr0
  have HC0 := Aside0.mk hc0
  clear hr0 hc0
  have HB := Aside0.mk (Below.refl w.heap.size w)
  have H : ((some (([] : List ByteArray) : List ByteArray)).bind fun y101 => (if y101.length + l0.length < 8796093022208 then (some (y101 ++ l0)) else (none))) = some r := h
  clear h
  obtain ⟨y101, hy101⟩ : ∃ y_ : List ByteArray, y_ = (([] : List ByteArray)) := ⟨_, rfl⟩
  replace H : (if y101.length + l0.length < 8796093022208 then (some (y101 ++ l0)) else (none)) = some r := by first | (rw [hy101]; with_reducible exact H) | (have H2_ := (Option.bind_some _ _).symm.trans H; rw [hy101]; with_reducible exact H2_) | (have H2_ := (Option.bind_some _ _).symm.trans H; with_reducible exact H2_) | with_reducible exact H | (rw [hy101]; exact H) | exact H
  have Ny101 := Aside0.mk hy101
  clear hy101
  by_cases c2 : y101.length + l0.length < 8796093022208
  · rw [if_pos c2] at H
    have LMc2 := Aside0.mk c2
    clear c2
    obtain ⟨y104, hy104⟩ : ∃ y_ : List ByteArray, y_ = (y101 ++ l0) := ⟨_, rfl⟩
    replace H : (some y104) = some r := by first | (rw [hy104]; with_reducible exact H) | (have H2_ := (Option.bind_some _ _).symm.trans H; rw [hy104]; with_reducible exact H2_) | (have H2_ := (Option.bind_some _ _).symm.trans H; with_reducible exact H2_) | with_reducible exact H | (rw [hy104]; exact H) | exact H
    have Ny104 := Aside0.mk hy104
    clear hy104
    obtain rfl := Option.some.inj H
    go_enter Try.func35, Try.ntmps35
    go_wp2_with (first | ((with_reducible refine gate_dst (N := 5) rfl ?_); refine Kd.R_lit Kd.string _ 9 ?hg (N := 5) ?hd (xs := ([] : List ByteArray)) (inner := []) (ok := fun _ => True) (okp := fun _ => True) ?hr ?hp (fun _ hk => hk) trivial (Below.refl _ _) (Nat.le_refl _) (by simp) ?_; (case hd => rfl); (case hg => rfl); (case hr => first | (go_simp; done) | (go_simp; rfl)); (case hp => exact (Reps.none _ _)); intro v102 w3 ho4 hb hg_ hnew_; clear hg_ hnew_; (first | rw [← Ny101.out] at ho4 | (simp only [Int.reduceToNat] at ho4; rw [← Ny101.out] at ho4)); have n0_ := Aside0.mk (Kd.R_lower ho4 (below_size (by repeat (first | (with_reducible first | exact HB.out | apply below_alloc | apply pw_below_drewN | apply below_drew1) | exact HB.out)))); have n1_ := Aside0.mk (below_step (by repeat (first | (with_reducible first | exact HB.out | apply below_alloc | apply pw_below_drewN | apply below_drew1) | exact HB.out)) hb); clear HB; have HO103 := n0_; have HB := n1_; clear n0_ n1_; clear hb ho4) | ((with_reducible refine gate_builtin (b := .append) (xs := #[.tmp 5, .tmp 6]) rfl ?_); at_builtin; refine Kd.R_append_rows Kd.string (w0 := w) w.heap.size rfl (.tmp 5) (.tmp 6) 22 9 (.string ⟨#[]⟩) 16 rfl Try.underlying22 info9 rfl (by decide) (by omega) v102 y101 l0 _ _ _ (fun _ => True) (fun _ => False) rfl rfl ?aO ?aR (fun _ _ h => h) (fun _ h => h.elim) ?aF ?aB ?aS ?aL ?_; (case aR => repeat (first | exact (Kd.C_below HR0.out HB.out) | (with_reducible refine Kd.C_alloc ?_ _) | (with_reducible refine Kd.C_drewN ?_ _) | (with_reducible refine Kd.C_drew ?_))); (case aB => exact (by repeat (first | (with_reducible first | exact HB.out | apply below_alloc | apply pw_below_drewN | apply below_drew1) | exact HB.out))); (case aF => exact (fun _ _ => trivial)); (case aO => exact (by (with_reducible repeat (first | apply Kd.R_alloc | apply Kd.R_drewN | apply Kd.R_drew)); exact HO103.out)); (case aS => exact (below_size (by repeat (first | (with_reducible first | exact HB.out | apply below_alloc | apply pw_below_drewN | apply below_drew1) | exact HB.out)))); (case aL => have := LMc2.out; omega); intro v105 w5 ho hb hg hat; rw [← Ny104.out] at ho; have n0_ := Aside0.mk (hb); have n1_ := Aside0.mk (ho); clear HB; clear HO103; have HB := n0_; have HO106 := n1_; clear n0_ n1_; clear ho hb hg hat))
    go_ret
    exact ⟨_, by first | rfl | (simp [errW_none, errW_some] <;> rfl) | (simp [*, errW_none, errW_some] <;> rfl), by (with_reducible repeat (first | apply Kd.R_alloc | apply Kd.R_drewN | apply Kd.R_drew)); exact HO106.out, by repeat (first | (with_reducible first | exact HB.out | apply below_alloc | apply pw_below_drewN | apply below_drew1) | exact HB.out)⟩
  · rw [if_neg c2] at H
    exact absurd H (by simp)

/-! ### slices_Sort_string_string: function 36, by hand -/
def slices_Sort_string_string.f (l0 : List ByteArray) : Option (List ByteArray) := if l0.length < 4611686018427387904 then some (((l0.map fun x => x.data.toList).mergeSort fun x y => decide (x ≤ y)).map fun x => ⟨x.toArray⟩) else none
theorem slices_Sort_string_string.enc (l : List (List UInt8)) : l.map encStr = encs Value.string (l.map fun x => (⟨x.toArray⟩ : ByteArray)) := by simp [encs, encStr]
theorem slices_Sort_string_string.enc0 (l : List ByteArray) : encs Value.string l = (l.map fun x => x.data.toList).map encStr := by simp [encs, encStr]
theorem slices_Sort_string_string.grownBy {w : World} {g n : Nat} {os : Array Obj} (d : Array (List UInt8)) : w.grownBy (Go.Sort.grow (Go.Sort.putRow encStr (Go.Sort.ahead w n) g 0 d) os) (some g) := grownBy_sorted d
theorem slices_Sort_string_string.owns {w : World} {base g cap n k : Nat} {e : TypeId} {os : Array Obj} {cur : Array Value} {ts : List (List UInt8)} (hl : ts.length = k) (hbase : base ≤ g) (hb : w.heap[g]? = some (.cells cur e (0, 0)))
    (h1 : k ≤ cap) (h2 : cap ≤ maxLen) (h3 : cap * 1 ≤ cur.size) :
    (Go.Sort.grow (Go.Sort.putRow encStr (Go.Sort.ahead w n) g 0 ts.toArray) os).ownsRowW base e 1 (.slice (some ⟨g, 0, none⟩) k cap) k (ts.map encStr) :=
  ⟨by simp [hl], .inr ⟨g, cap, _, rfl, hbase, heap_sorted _ hb, h1, h2, by simpa [Go.Sort.putCells] using h3, by rw [Nat.mul_one, ← hl]; exact take_putCells cur ts (by omega)⟩⟩
theorem slices_Sort_string_string.calls (P0_ : Nat → Prop) (u9000_ : Value) (l0 : List ByteArray) (r : List ByteArray) (w0 w : World) (hB : Below w0.heap.size w0 w) (ho0 : Kd.R Kd.string 9 w w0.heap.size P0_ u9000_ l0) (h : slices_Sort_string_string.f l0 = some r) :
    Calls Try.prog 36 #[u9000_] w fun e w' => e = .returned (.tuple #[]) ∧ Kd.R Kd.string 9 w' w0.heap.size (fun k_ => (P0_ k_ ∨ w.heap.size ≤ k_)) u9000_ r ∧ Below w0.heap.size w0 w' ∧ Kept w w' (fun k_ => P0_ k_) := by
  unfold slices_Sort_string_string.f at h
  have hlen : l0.length < 4611686018427387904 := by
    rcases Nat.lt_or_ge l0.length 4611686018427387904 with h1 | h1
    · exact h1
    · rw [if_neg (by omega)] at h; cases h
  rw [if_pos hlen] at h
  obtain rfl := Option.some.inj h
  have hok := ho0.1
  have hown := Kd.own_of_R ho0
  rcases hown.2 with ⟨rfl, h0⟩ | ⟨g, cap, cur, rfl, hbase, hheap, hn, hm, hs, ht⟩
  · obtain rfl : l0 = [] := List.eq_nil_of_length_eq_zero h0
    refine (Try.slices_Sort_string_none none 0 w).mono ?_
    rintro e w' ⟨rfl, rfl⟩
    exact ⟨rfl, by rw [List.map_nil, List.mergeSort_nil, List.map_nil]; exact Kd.R_nil _ _ _ _ _, hB, Kept.refl _ _⟩
  · have hP : P0_ g := hok g rfl
    rw [slices_Sort_string_string.enc0, Nat.mul_one] at ht
    have ht' : cur.toList.take (l0.map fun x => x.data.toList).length = (l0.map fun x => x.data.toList).map encStr := by rw [List.length_map]; exact ht
    have hc := Try.slices_Sort_string g 0 cap (l0.map fun x => x.data.toList) w (holds_of_block hheap ht') (Array.getElem?_eq_some_iff.1 hheap).1 (by rw [List.length_map]; exact hlen)
    rw [List.length_map] at hc
    refine hc.mono ?_
    rintro e w' ⟨rfl, n, os, rfl⟩
    generalize hts : ((l0.map fun x => x.data.toList).mergeSort fun x y => decide (x ≤ y)) = ts
    have hl : ts.length = l0.length := by rw [← hts, List.length_mergeSort, List.length_map]
    have hg := slices_Sort_string_string.grownBy (w := w) (g := g) (n := n) (os := os) ts.toArray
    refine ⟨rfl, Kd.R_of_own ?_ (fun k hk => ?_), hB.grown hg hB.size (fun k hk => ?_), Kept.of_grown hg (Kept.refl _ _) (fun k hk => ?_)⟩
    · have h9 := slices_Sort_string_string.owns (n := n) (os := os) hl hbase hheap hn hm (by first | exact hs | exact Nat.le_of_eq hs.symm)
      rw [slices_Sort_string_string.enc] at h9
      rw [List.length_map, hl]
      exact h9
    · cases hk; exact .inl hP
    · cases hk; exact hbase
    · cases hk; exact .inl hP

/-! ### slices_Clip_string_string: function 37, by hand -/
def slices_Clip_string_string.f (l0 : List ByteArray) : Option (List ByteArray) := some l0
set_option maxRecDepth 100000 in
theorem slices_Clip_string_string.clips (A : Option Addr) (n c : Nat) (w : World) (hn : n ≤ c) (hc : c ≤ 9223372036854775807) :
    Calls Try.prog 37 #[.slice A n c] w fun e w' => e = .returned (.slice A n n) ∧ w' = w := by
  go_enter Try.func37, Try.ntmps37
  go_wp2
  go_ret
  exact ⟨rfl, rfl⟩
theorem slices_Clip_string_string.calls (P0_ : Nat → Prop) (u9000_ : Value) (l0 : List ByteArray) (r : List ByteArray) (w0 w : World) (hB : Below w0.heap.size w0 w) (ho0 : Kd.R Kd.string 9 w w0.heap.size P0_ u9000_ l0) (h : slices_Clip_string_string.f l0 = some r) :
    Calls Try.prog 37 #[u9000_] w fun e w' => ∃ v0_ : Value, e = .returned (v0_) ∧ Kd.R Kd.string 9 w' w0.heap.size (fun k_ => (P0_ k_ ∨ w.heap.size ≤ k_)) v0_ r ∧ Below w0.heap.size w0 w' ∧ Kept w w' (fun k_ => P0_ k_) := by
  obtain rfl := Option.some.inj h
  have hok := ho0.1
  have hown := Kd.own_of_R ho0
  rcases hown.2 with ⟨rfl, h0⟩ | ⟨g, cap, cur, rfl, hbase, hheap, hn, hm, hs, ht⟩
  · obtain rfl : l0 = [] := List.eq_nil_of_length_eq_zero h0
    refine (slices_Clip_string_string.clips none 0 0 w (Nat.le_refl _) (by omega)).mono ?_
    rintro e w' ⟨rfl, rfl⟩
    exact ⟨_, rfl, Kd.R_nil _ _ _ _ _, hB, Kept.refl _ _⟩
  · have hP : P0_ g := hok g rfl
    have hmx : maxLen = 9223372036854775807 := rfl
    refine (slices_Clip_string_string.clips (some ⟨g, 0, none⟩) l0.length cap w hn (by omega)).mono ?_
    rintro e w' ⟨rfl, rfl⟩
    refine ⟨_, rfl, Kd.R_of_own ⟨hown.1, .inr ⟨g, l0.length, cur, rfl, hbase, hheap, Nat.le_refl _, by omega, by omega, ht⟩⟩ (fun k hk => ?_), hB, Kept.refl _ _⟩
    cases hk; exact .inl hP

/-! ### slices_Compact_string_string: function 38, by hand -/
def slices_Compact_string_string.f (l0 : List ByteArray) : Option (List ByteArray) := some ((Lib.compact (l0.map fun x => x.data.toList)).map fun x => ⟨x.toArray⟩)
theorem slices_Compact_string_string.enc (l : List (List UInt8)) : l.map encStr = encs Value.string (l.map fun x => (⟨x.toArray⟩ : ByteArray)) := by simp [encs, encStr]
theorem slices_Compact_string_string.enc0 (l : List ByteArray) : encs Value.string l = (l.map fun x => x.data.toList).map encStr := by simp [encs, encStr]
theorem slices_Compact_string_string.grownBy {w : World} {g n : Nat} {os : Array Obj} (d : Array (List UInt8)) : w.grownBy (Go.Sort.grow (Go.Sort.putRow encStr (Go.Sort.ahead w n) g 0 d) os) (some g) := grownBy_sorted d
theorem slices_Compact_string_string.owns {w : World} {base g cap n k : Nat} {e : TypeId} {os : Array Obj} {cur : Array Value} {ts : List (List UInt8)} (hl : ts.length = k) (hbase : base ≤ g) (hb : w.heap[g]? = some (.cells cur e (0, 0)))
    (h1 : k ≤ cap) (h2 : cap ≤ maxLen) (h3 : cap * 1 ≤ cur.size) :
    (Go.Sort.grow (Go.Sort.putRow encStr (Go.Sort.ahead w n) g 0 ts.toArray) os).ownsRowW base e 1 (.slice (some ⟨g, 0, none⟩) k cap) k (ts.map encStr) :=
  ⟨by simp [hl], .inr ⟨g, cap, _, rfl, hbase, heap_sorted _ hb, h1, h2, by simpa [Go.Sort.putCells] using h3, by rw [Nat.mul_one, ← hl]; exact take_putCells cur ts (by omega)⟩⟩
theorem slices_Compact_string_string.calls (P0_ : Nat → Prop) (u9000_ : Value) (l0 : List ByteArray) (r : List ByteArray) (w0 w : World) (hB : Below w0.heap.size w0 w) (ho0 : Kd.R Kd.string 9 w w0.heap.size P0_ u9000_ l0) (h : slices_Compact_string_string.f l0 = some r) :
    Calls Try.prog 38 #[u9000_] w fun e w' => ∃ v0_ : Value, e = .returned (v0_) ∧ Kd.R Kd.string 9 w' w0.heap.size (fun k_ => (P0_ k_ ∨ w.heap.size ≤ k_)) v0_ r ∧ Below w0.heap.size w0 w' ∧ Kept w w' (fun k_ => P0_ k_) := by
  obtain rfl := Option.some.inj h
  have hok := ho0.1
  have hown := Kd.own_of_R ho0
  rcases hown.2 with ⟨rfl, h0⟩ | ⟨g, cap, cur, rfl, hbase, hheap, hn, hm, hs, ht⟩
  · obtain rfl : l0 = [] := List.eq_nil_of_length_eq_zero h0
    refine (Try.slices_Compact_string_empty none 0 w).mono ?_
    rintro e w' ⟨rfl, rfl⟩
    exact ⟨_, rfl, Kd.R_nil _ _ _ _ _, hB, Kept.refl _ _⟩
  · have hP : P0_ g := hok g rfl
    have hmx : maxLen = 9223372036854775807 := rfl
    rw [slices_Compact_string_string.enc0, Nat.mul_one] at ht
    have ht' : cur.toList.take (l0.map fun x => x.data.toList).length = (l0.map fun x => x.data.toList).map encStr := by rw [List.length_map]; exact ht
    have hc := Try.slices_Compact_string g 0 cap (l0.map fun x => x.data.toList) w (holds_of_block hheap ht') (by rw [List.length_map]; omega) (by rw [List.length_map]; exact hn)
    rw [List.length_map] at hc
    refine hc.mono ?_
    rintro e w' ⟨rfl, q, rfl⟩
    have hle := Lib.compact_length_le (l0.map fun x => x.data.toList)
    rw [List.length_map] at hle
    generalize hC : Lib.compact (l0.map fun x => x.data.toList) = C at hle ⊢
    generalize hD : C ++ List.replicate (l0.length - C.length) [] = D
    have hl : D.length = l0.length := by rw [← hD]; simp; omega
    have e0 : Go.Sort.putRow encStr (Go.Sort.ahead w q) g 0 D.toArray = Go.Sort.grow (Go.Sort.putRow encStr (Go.Sort.ahead w q) g 0 D.toArray) #[] := (Go.Sort.grow_empty _).symm
    rw [e0]
    have hg := slices_Compact_string_string.grownBy (w := w) (g := g) (n := q) (os := #[]) D.toArray
    refine ⟨_, rfl, Kd.R_of_own ?_ (fun k hk => ?_), hB.grown hg hB.size (fun k hk => ?_), Kept.of_grown hg (Kept.refl _ _) (fun k hk => ?_)⟩
    · have h9 := slices_Compact_string_string.owns (n := q) (os := #[]) hl hbase hheap hn hm (by first | exact hs | exact Nat.le_of_eq hs.symm)
      have h8 := own_take h9 (m := C.length) hle
      rw [← hD] at h8 ⊢
      rw [Nat.mul_one, List.map_append, List.take_left' (by simp), slices_Compact_string_string.enc] at h8
      rw [List.length_map]
      exact h8
    · cases hk; exact .inl hP
    · cases hk; exact hbase
    · cases hk; exact .inl hP

end Go.Proofs.Ytfakkehopmihoaa.PFnSorts
