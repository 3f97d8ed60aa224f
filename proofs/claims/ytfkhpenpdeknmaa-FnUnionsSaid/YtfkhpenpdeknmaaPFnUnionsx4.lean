-- Written by a program out of the translation, for this claim.
import Derived.Test.YtfkhpenpdeknmaaPFnUnionsx0
namespace Go.Proofs.Ytfkhpenpdeknmaa.PFnUnions
open Go.RowKit Go.Proofs.YtfkhpenpdeknmaaW.PrintWords Go.Proofs.YtfkhpenpdeknmaaW.PrintLast Go.Proofs.YtfkhpenpdeknmaaW.PrintMore
attribute [local go_sem] max2_int min2_int max_two min_two max_three min_three max_four min_four   -- for this text's walks alone
set_option linter.unusedVariables false
set_option linter.unusedSimpArgs false

/-! ### impl_Item: function 53, by hand -/
/-- The row behind an insertion. -/
def impl_Item.insRow (L mc : List Value) (i n : Nat) : List Value := L.take (i * 4) ++ mc ++ ((L.take (n * 4)).drop (i * 4) ++ L.drop ((n + 1) * 4))
set_option maxHeartbeats 4000000 in
set_option maxRecDepth 100000 in
theorem impl_Item.insRoom (g n c i : Nat) (cur : Array Value) (ad : Addr) (vc : Nat) (mc : List Value) (w : World) (hh : w.heap[g]? = some (.cells cur 30 (0, 0))) (hcs : cur.size = c * 4) (hn1 : n + 1 ≤ c) (hi : i < n) (hcm : c ≤ 9223372036854775807)
    (hml : mc.length = 4) (hm : ∀ j u, mc[j]? = some u → w.cell? (ad.add j) = some u) (h1m : ∀ u ∈ mc, u.oneCell' = true) (h1c : ∀ u ∈ cur.toList.take (n * 4), u.oneCell' = true) (hne : ad.block ≠ g) :
    Calls Try.prog 53 #[.slice (some ⟨g, 0, none⟩) n c, .int .i64 i, .slice (some ad) 1 vc] w fun e w' => e = .returned (.slice (some ⟨g, 0, none⟩) (n + 1) c) ∧ w' = w.drew.setRow g (impl_Item.insRow cur.toList mc i n).toArray := by
  obtain ⟨i0, hi0, hz0, hz1, hz2⟩ := info_parts info30
  have hsize : ∀ W : World, (Go.sizeOf 30).run Try.prog W = .ok 4 W := fun W => by simp [sizeOf, typeInfo, hi0, hz1]
  have hsz : (Try.prog.info? 30).map (·.size) = some 4 := by rw [hi0]; simp [hz1]
  obtain ⟨u0, hu0⟩ : ∃ u, w.cell? ad = some u := ⟨mc[0], by have := hm 0 mc[0] (List.getElem?_eq_getElem (by omega)); simpa [Addr.add] using this⟩
  have hov : ∀ o lb cb, (callFunc 58 #[.slice (some ad) 1 vc, .slice (some ⟨g, o, none⟩) lb cb]).run Try.prog w = .ok (.value (.bool false)) w := fun o lb cb => by
    rw [run_callFunc_extern Try.func58 (by kernel_rfl) (by kernel_rfl) (by kernel_rfl) (e := Extern.SlicesOverlaps.overlaps #[27, 27] #[4]) (by kernel_rfl),
      overlaps_own w 27 4 30 Try.underlying27 4 (hsize w) ad ⟨g, o, none⟩ 1 vc lb cb hne u0 hu0 cur 30 hh (by omega)]
    rfl
  have hL : cur.toList.length = c * 4 := by simpa using hcs
  obtain ⟨L1, hL1⟩ : ∃ L1, L1 = cur.toList.take ((i + 1) * 4) ++ (cur.toList.take (n * 4)).drop (i * 4) ++ cur.toList.drop ((n + 1) * 4) := ⟨_, rfl⟩
  have hX : ((cur.toList.take (n * 4)).drop (i * 4)).length = (n - i) * 4 := by simp [hL]; omega
  have hcp1 : ∀ ty dc sc, (Builtin.copy_ #[27, 27] ty #[.slice (some ⟨g, (i + 1) * 4, none⟩) (n - i) dc, .slice (some ⟨g, i * 4, none⟩) (n + 1 - i) sc]).run Try.prog w.drew = .ok (goInt (n - i)) (w.drew.setRow g L1.toArray) := fun ty dc sc => by
    have h := copy_k (P := Try.prog) w.drew 27 27 ty 30 4 g ((i + 1) * 4) (n - i) dc ⟨g, i * 4, none⟩ (n + 1 - i) sc cur 30 ((cur.toList.take (n * 4)).drop (i * 4)) Try.underlying27 hsz hh
      (by rw [hX]; simp only [Nat.min_def]; split <;> omega)
      (fun j v hj => by
        rw [List.getElem?_drop, List.getElem?_take] at hj
        split at hj
        · rw [add_at, cell_of_row w.drew g _ cur 30 (0, 0) hh, ← Array.getElem?_toList]; exact hj
        · cases hj) (by rw [hX, hcs]; omega) (fun v hv => h1c v (List.mem_of_mem_drop hv))
    rw [h, hX, hL1]
    congr 2
    · simp only [Nat.min_def]; split <;> omega
    · rw [show (i + 1) * 4 + (n - i) * 4 = (n + 1) * 4 by omega]
  have hL1l : L1.length = c * 4 := by rw [hL1]; simp [hL]; omega
  obtain ⟨W1, hW1⟩ : ∃ W1, W1 = w.drew.setRow g L1.toArray := ⟨_, rfl⟩
  have hW1g : W1.heap[g]? = some (.cells L1.toArray 30 (0, 0)) := by rw [hW1]; exact setRow_heap w.drew g cur _ 30 _ hh
  have hW1o : ∀ k, k ≠ g → W1.heap[k]? = w.heap[k]? := fun k hk => by rw [hW1]; exact setRow_other w.drew g k _ hk
  have hmin : Nat.min 1 (n + 1 - i) = 1 := Nat.min_eq_left (by omega)
  have hcp2 : ∀ ty dc, (Builtin.copy_ #[27, 27] ty #[.slice (some ⟨g, i * 4, none⟩) (n + 1 - i) dc, .slice (some ad) 1 vc]).run Try.prog W1 = .ok (goInt 1) (w.drew.setRow g (impl_Item.insRow cur.toList mc i n).toArray) := fun ty dc => by
    have h := copy_k (P := Try.prog) W1 27 27 ty 30 4 g (i * 4) (n + 1 - i) dc ad 1 vc L1.toArray 30 mc Try.underlying27 hsz hW1g
      (by rw [hml, hmin])
      (fun j v hj => by
        have hb : (ad.add j).block = ad.block := by unfold Addr.add; split <;> rfl
        rw [World.cell?_of_block (w := w) (hW1o _ (by rw [hb]; exact hne))]
        exact hm j v hj) (by simp [hL1l, hml]; omega) h1m
    rw [h, hW1, hmin]
    congr 1
    · rw [setRow_setRow]
      congr 2
      rw [hml, hL1]
      unfold impl_Item.insRow
      simp only [List.append_assoc]
      congr 1
      · rw [List.take_append_of_le_length (by simp [hL]; omega), List.take_take, Nat.min_eq_left (by omega)]
      · congr 1
        rw [show i * 4 + 4 = (i + 1) * 4 by omega, List.drop_append_of_le_length (by simp [hL]; omega), List.drop_eq_nil_of_le (by simp; omega)]
        rfl
  rw [← hW1] at hcp1
  have hw1 : IntKind.i64.wrap ((i : Int) + 1) = (i : Int) + 1 := by rw [IntKind.wrap_i64]; omega
  have htn : ((i : Int) + 1).toNat = i + 1 := by omega
  have hb1 : (0 : Int) ≤ (i : Int) + 1 := by omega
  have hin : i ≤ n := by omega
  have hb2 : ¬ (c = i + 1) := by omega
  have hb3 : (i : Int) ≤ (n : Int) + 1 := by omega
  have hb4 : ¬ (c = i) := by omega
  have hz2' : ¬ ((i : Int) = (n : Int)) := by omega
  clear hmin hL1 hX hL hW1 hW1g hW1o hL1l hu0 hcs hh hm hml hz0 hz1 hz2
  go_enter Try.func53, Try.ntmps53
  go_wp2_with (simp only [hov])
  go_region_law (refine copy_step rfl _ _ 27 27 rfl _ _ (by simp [Act.eval, Act.put]) (by simp [Act.eval, Act.put]) (hcp1 _ _ _) ?_)
  go_wp2_with (at_builtin; refine copy_list rfl _ _ 27 27 rfl _ _ rfl rfl (hcp2 _ _) ?_)
  go_ret
  exact ⟨rfl, rfl⟩
set_option maxHeartbeats 4000000 in
set_option maxRecDepth 100000 in
theorem impl_Item.insEnd (base : Nat) (v : Value) (n : Nat) (xs : List Value) (ad : Addr) (vc : Nat) (mc : List Value) (w : World) (hown : w.ownsRow base 30 4 v n xs) (hml : mc.length = 4)
    (hm : ∀ j u, mc[j]? = some u → w.cell? (ad.add j) = some u) (h1m : ∀ u ∈ mc, u.oneCell' = true) (hb : base ≤ w.heap.size) (hl : (n + 1) * 40 ≤ 140737488355328) :
    Calls Try.prog 53 #[v, .int .i64 n, .slice (some ad) 1 vc] w fun e w' => ∃ v' : Value, e = .returned v' ∧ w'.ownsRow base 30 4 v' (n + 1) (xs ++ mc) ∧ w.grownBy w' v.ownBlock ∧ (v'.ownBlock = v.ownBlock ∨ v'.ownBlock = some w.heap.size) := by
  obtain ⟨i0, hi0, hz0, hz1, hz2⟩ := info_parts info30
  have hi0' := Aside0.mk hi0
  have hz0' := Aside0.mk hz0
  have hz1' := Aside0.mk hz1
  have hz2' := Aside0.mk hz2
  have hm' := Aside0.mk hm
  have hml' := Aside0.mk hml
  have h1m' := Aside0.mk h1m
  have ho' := Aside0.mk hown
  have hb' := Aside0.mk hb
  clear hi0 hz0 hz1 hz2 hm hml h1m hb
  rcases hown.2 with ⟨rfl, rfl⟩ | ⟨g, cap, cur, rfl, hbg, hg, hnc, hcm, hcs, htake⟩
  · clear hown
    go_enter Try.func53, Try.ntmps53
    go_wp2_with (at_builtin; refine wpList_append_own_at _ rfl _ _ 27 rfl base 30 i0 _ 4 40 Try.underlying27 hi0'.out hz0'.out hz1'.out hz2'.out rfl (by decide) (.slice none 0 0) 0 xs rfl ho'.out ad 1 vc mc rfl hml'.out hm'.out h1m'.out (by unfold maxLen; omega) hl hb'.out ?_; intro v1 w1 hown1 hg1 _ hat1; replace hown1 := Aside0.mk hown1; replace hg1 := Aside0.mk hg1; replace hat1 := Aside0.mk hat1)
    all_goals (go_ret; exact ⟨_, rfl, hown1.out, hg1.out, hat1.out⟩)
  · simp only [maxLen] at hcm
    clear hg hcs htake hown
    go_enter Try.func53, Try.ntmps53
    go_wp2_with (at_builtin; refine wpList_append_own_at _ rfl _ _ 27 rfl base 30 i0 _ 4 40 Try.underlying27 hi0'.out hz0'.out hz1'.out hz2'.out rfl (by decide) (.slice (some ⟨g, 0, none⟩) n cap) n xs rfl ho'.out ad 1 vc mc rfl hml'.out hm'.out h1m'.out (by unfold maxLen; omega) hl hb'.out ?_; intro v1 w1 hown1 hg1 _ hat1; replace hown1 := Aside0.mk hown1; replace hg1 := Aside0.mk hg1; replace hat1 := Aside0.mk hat1)
    all_goals (go_ret; exact ⟨_, rfl, hown1.out, hg1.out, hat1.out⟩)
set_option maxHeartbeats 4000000 in
set_option maxRecDepth 100000 in
theorem impl_Item.insGrow (g n c i : Nat) (cur : Array Value) (ad : Addr) (vc : Nat) (mc : List Value) (w : World) (hh : w.heap[g]? = some (.cells cur 30 (0, 0))) (hcs : cur.size = c * 4) (hnc : n ≤ c) (hn1 : c < n + 1) (hi : i < n) (hcm : c ≤ 9223372036854775807)
    (hl : (n + 1) * 40 ≤ 140737488355328) (hml : mc.length = 4) (hm : ∀ j u, mc[j]? = some u → w.cell? (ad.add j) = some u) (h1m : ∀ u ∈ mc, u.oneCell' = true) (h1c : ∀ u ∈ cur.toList.take (n * 4), u.oneCell' = true) :
    Calls Try.prog 53 #[.slice (some ⟨g, 0, none⟩) n c, .int .i64 i, .slice (some ad) 1 vc] w fun e w' => ∃ G rest, e = .returned (.slice (some ⟨w.heap.size, 0, none⟩) (n + 1) G) ∧
      w'.heap[w.heap.size]? = some (.cells (cur.toList.take (i * 4) ++ mc ++ ((cur.toList.take (n * 4)).drop (i * 4) ++ rest)).toArray 30 (0, 0)) ∧ n + 1 ≤ G ∧ G ≤ 9223372036854775807 ∧ (n + 1) * 4 + rest.length = G * 4 ∧ w.grownBy w' none := by
  obtain ⟨i0, hi0, hz0, hz1, hz2⟩ := info_parts info30
  have hsz : (Try.prog.info? 30).map (·.size) = some 4 := by rw [hi0]; simp [hz1]
  have hL : cur.toList.length = c * 4 := by simpa using hcs
  have hgw : g < w.heap.size := (Array.getElem?_eq_some_iff.1 hh).1
  have hadw : ∀ j u, mc[j]? = some u → (ad.add j).block < w.heap.size := fun j u hj => World.block_lt_of_cell? w _ (hm j u hj)
  have hold : (Builtin.firstCells i0.size i (.slice (some ⟨g, 0, none⟩) i c)).run Try.prog w.drew = .ok (cur.toList.take (i * 4)).toArray w.drew := by
    rw [hz1]
    exact run_firstCells_some w.drew 4 i ⟨g, 0, none⟩ i c (cur.toList.take (i * 4)) (by rw [List.length_take, hL]; omega) (fun j v hj => by
      rw [add_plain, cell_of_row w.drew g _ cur 30 (0, 0) hh, ← Array.getElem?_toList]
      rw [List.getElem?_take] at hj
      split at hj
      · exact hj
      · cases hj)
  have hkk : (n : Int) + 1 - (i : Int) = ((n + 1 - i : Nat) : Int) := by omega
  have hik : i + (n + 1 - i) = n + 1 := by omega
  have hrz : ∀ ty, (Builtin.append_ #[27, 3] ty #[.slice (some ⟨g, 0, none⟩) i c, .int .i64 ((n : Int) + 1 - (i : Int))]).run Try.prog w = .ok (.slice (some ⟨w.heap.size, 0, none⟩) (n + 1) (grownCap w (n + 1) c 30)) (w.drew.alloc (.cells ((cur.toList.take (i * 4)).toArray ++ (Builtin.zeroCells (Value.agg #[.int .i64 0, .int .i64 0, .int .i64 0, .string ⟨#[]⟩]).cells (n + 1 - i)) ++ (Builtin.zeroCells (Value.agg #[.int .i64 0, .int .i64 0, .int .i64 0, .string ⟨#[]⟩]).cells (grownCap w (n + 1) c 30 - (n + 1)))) 30)) := fun ty => by
    have h := Lib.run_append_grow_zeros w 27 3 ty 30 i0 _ .i64 .i64 Try.underlying27 Try.underlying3 hi0 hz0 (some ⟨g, 0, none⟩) i c (cur.toList.take (i * 4)) hold (n + 1 - i) (by omega) (by omega) (by omega) (by omega) (by rw [hz2]; omega) (by rw [hz2, hik]; exact growslice_fits (by omega) hl)
    rw [hik] at h
    rw [hkk]
    exact h
  obtain ⟨G, hG⟩ : ∃ G, G = grownCap w (n + 1) c 30 := ⟨_, rfl⟩
  rw [← hG] at hrz
  have hGn : n + 1 ≤ G := by rw [hG]; exact grownCap_ge w _ _ _
  have hG63 : G ≤ 9223372036854775807 := by
    have := grownCap_le_maxLen w (n + 1) c 30 (by unfold maxLen; omega)
    rw [← hG] at this
    unfold maxLen at this
    omega
  obtain ⟨Z, hZ, hZl⟩ : ∃ Z : List Value, (Builtin.zeroCells (Value.agg #[.int .i64 0, .int .i64 0, .int .i64 0, .string ⟨#[]⟩]).cells (n + 1 - i) ++ Builtin.zeroCells (Value.agg #[.int .i64 0, .int .i64 0, .int .i64 0, .string ⟨#[]⟩]).cells (G - (n + 1))) = Z.toArray ∧ Z.length = (G - i) * 4 :=
    ⟨_, (Array.toArray_toList ..).symm, by simp [Builtin.zeroCells, Value.cells]; omega⟩
  obtain ⟨ROW, hROW⟩ : ∃ ROW : List Value, ROW = cur.toList.take (i * 4) ++ Z := ⟨_, rfl⟩
  have hRl : ROW.length = G * 4 := by rw [hROW]; simp [hL, hZl]; omega
  obtain ⟨W1, hW1⟩ : ∃ W1, W1 = w.drew.alloc (.cells ROW.toArray 30) := ⟨_, rfl⟩
  have hrz1 : ∀ ty, (Builtin.append_ #[27, 3] ty #[.slice (some ⟨g, 0, none⟩) i c, .int .i64 ((n : Int) + 1 - (i : Int))]).run Try.prog w = .ok (.slice (some ⟨w.heap.size, 0, none⟩) (n + 1) G) W1 := fun ty => by
    rw [hrz ty, hW1, hROW, Array.append_assoc, hZ]
    simp
  clear hrz
  have hN1 : W1.heap[w.heap.size]? = some (.cells ROW.toArray 30 (0, 0)) := by rw [hW1]; exact heap_alloc_new w.drew _
  have hO1 : ∀ k, k < w.heap.size → W1.heap[k]? = w.heap[k]? := fun k hk => by rw [hW1]; exact Below.heap_alloc w.drew _ k hk
  obtain ⟨R2, hR2⟩ : ∃ R2, R2 = cur.toList.take (i * 4) ++ mc ++ ROW.drop ((i + 1) * 4) := ⟨_, rfl⟩
  have hR2l : R2.length = G * 4 := by rw [hR2]; simp [hL, hml, hRl]; omega
  obtain ⟨W2, hW2⟩ : ∃ W2, W2 = W1.setRow w.heap.size R2.toArray := ⟨_, rfl⟩
  have hmin : Nat.min 1 (n + 1 - i) = 1 := Nat.min_eq_left (by omega)
  have hcpA : ∀ ty dc, (Builtin.copy_ #[27, 27] ty #[.slice (some ⟨w.heap.size, i * 4, none⟩) (n + 1 - i) dc, .slice (some ad) 1 vc]).run Try.prog W1 = .ok (goInt 1) W2 := fun ty dc => by
    have h := copy_k (P := Try.prog) W1 27 27 ty 30 4 w.heap.size (i * 4) (n + 1 - i) dc ad 1 vc ROW.toArray 30 mc Try.underlying27 hsz hN1
      (by rw [hml, hmin])
      (fun j v hj => by rw [World.cell?_of_block (w := w) (hO1 _ (hadw j v hj))]; exact hm j v hj) (by simp [hRl, hml]; omega) h1m
    rw [h, hW2, hmin]
    congr 3
    rw [hml, hR2, hROW]
    simp only [List.append_assoc]
    congr 1
    · rw [List.take_append_of_le_length (by simp [hL]; omega), List.take_take, Nat.min_self]
    · rw [show i * 4 + 4 = (i + 1) * 4 by omega]
  have hN2 : W2.heap[w.heap.size]? = some (.cells R2.toArray 30 (0, 0)) := by rw [hW2]; exact setRow_heap W1 _ _ _ 30 _ hN1
  have hO2 : ∀ k, k < w.heap.size → W2.heap[k]? = w.heap[k]? := fun k hk => by rw [hW2]; exact (setRow_other W1 _ k _ (by omega)).trans (hO1 k hk)
  have hX : ((cur.toList.take (n * 4)).drop (i * 4)).length = (n - i) * 4 := by simp [hL]; omega
  obtain ⟨R3, hR3⟩ : ∃ R3, R3 = cur.toList.take (i * 4) ++ mc ++ ((cur.toList.take (n * 4)).drop (i * 4) ++ R2.drop ((n + 1) * 4)) := ⟨_, rfl⟩
  obtain ⟨W3, hW3⟩ : ∃ W3, W3 = W2.drew.setRow w.heap.size R3.toArray := ⟨_, rfl⟩
  have hcpB : ∀ ty dc sc, (Builtin.copy_ #[27, 27] ty #[.slice (some ⟨w.heap.size, (i + 1) * 4, none⟩) (n - i) dc, .slice (some ⟨g, i * 4, none⟩) (n - i) sc]).run Try.prog W2.drew = .ok (goInt (n - i)) W3 := fun ty dc sc => by
    have h := copy_k (P := Try.prog) W2.drew 27 27 ty 30 4 w.heap.size ((i + 1) * 4) (n - i) dc ⟨g, i * 4, none⟩ (n - i) sc R2.toArray 30 ((cur.toList.take (n * 4)).drop (i * 4)) Try.underlying27 hsz hN2
      (by rw [hX]; simp only [Nat.min_def]; split <;> omega)
      (fun j v hj => by
        rw [List.getElem?_drop, List.getElem?_take] at hj
        split at hj
        · rw [add_at, cell_of_row W2.drew g _ cur 30 (0, 0) ((hO2 g hgw).trans hh), ← Array.getElem?_toList]; exact hj
        · cases hj) (by rw [hX]; simp [hR2l]; omega) (fun v hv => h1c v (List.mem_of_mem_drop hv))
    rw [h, hX, hW3]
    congr 2
    · simp only [Nat.min_def]; split <;> omega
    · have e2 : R2.toArray.toList.take ((i + 1) * 4) = cur.toList.take (i * 4) ++ mc := by
        show R2.take _ = _
        rw [hR2, List.take_append_of_le_length (by simp [hL, hml]; omega), List.take_of_length_le (by simp [hL, hml]; omega)]
      rw [show (i + 1) * 4 + (n - i) * 4 = (n + 1) * 4 by omega, hR3, e2, List.append_assoc]
  have hR3l : R3.length = G * 4 := by rw [hR3]; simp [hL, hml, hR2l]; omega
  have hN3 : W3.heap[w.heap.size]? = some (.cells R3.toArray 30 (0, 0)) := by rw [hW3]; exact setRow_heap W2.drew _ _ _ 30 _ hN2
  have hO3 : ∀ k, k < w.heap.size → W3.heap[k]? = w.heap[k]? := fun k hk => by rw [hW3]; exact (setRow_other W2.drew _ k _ (by omega)).trans (hO2 k hk)
  have hg3 : w.grownBy W3 none := ⟨by rw [hW3, hW2, hW1]; rfl, by rw [hW3, hW2, hW1]; rfl, by rw [hW3, hW2, hW1]; rfl, by have := (Array.getElem?_eq_some_iff.1 hN3).1; omega, fun k hk _ => hO3 k hk⟩
  have F : Aside0 (∃ rest, W3.heap[w.heap.size]? = some (.cells (cur.toList.take (i * 4) ++ mc ++ ((cur.toList.take (n * 4)).drop (i * 4) ++ rest)).toArray 30 (0, 0)) ∧ (n + 1) * 4 + rest.length = G * 4) := ⟨⟨_, by rw [← hR3]; exact hN3, by simp [hR2l]; omega⟩⟩
  replace hg3 := Aside0.mk hg3
  have hw1 : IntKind.i64.wrap ((i : Int) + 1) = (i : Int) + 1 := by rw [IntKind.wrap_i64]; omega
  have htn : ((i : Int) + 1).toNat = i + 1 := by omega
  have hb1 : (0 : Int) ≤ (i : Int) + 1 := by omega
  have hin : i ≤ n := by omega
  have hb3 : (i : Int) ≤ (n : Int) := by omega
  have hGi : ¬ (G = i) := by omega
  have hGim : ¬ (G = i + 1) := by omega
  have hci : ¬ (c = i) := by omega
  have hz2' : ¬ ((i : Int) = (n : Int)) := by omega
  have hz3 : (c : Int) < (n : Int) + 1 := by omega
  clear hN3 hO3 hR3l hW3 hR3 hX hO2 hN2 hW2 hR2l hR2 hN1 hO1 hW1 hRl hROW hZ hZl hG hik hkk hold hadw hL hh hcs hml hm hmin hz0 hz1 hz2
  go_enter Try.func53, Try.ntmps53
  go_wp2_with (first
    | (at_builtin; refine Lib.wpList_append_run _ rfl _ _ _ _ rfl _ _ rfl rfl _ _ (hrz1 _) ?_)
    | (refine copy_list rfl _ _ 27 27 rfl _ _ rfl rfl (hcpA _ _) ?_))
  go_region_law (refine copy_step rfl _ _ 27 27 rfl _ _ (by simp [Act.eval, Act.put]) (by simp [Act.eval, Act.put]) (hcpB _ _ _) ?_)
  go_wp2
  go_ret
  obtain ⟨rest, hF1, hF2⟩ := F.out
  exact ⟨G, rest, rfl, hF1, hGn, hG63, hF2, hg3.out⟩
def impl_Item.cl (m : S30) : List Value := [.int .i64 m.f0, .int .i64 m.f1, .int .i64 m.f2, .string m.f3]
theorem impl_Item.cl_one (l : List S30) : ∀ u ∈ l.flatMap impl_Item.cl, u.oneCell' = true := by
  intro u hu
  obtain ⟨m, _, hm⟩ := List.mem_flatMap.1 hu
  simp only [impl_Item.cl, List.mem_cons, List.not_mem_nil, or_false] at hm
  rcases hm with rfl | rfl | rfl | rfl <;> rfl
theorem impl_Item.cl_length (l : List S30) : (l.flatMap impl_Item.cl).length = l.length * 4 := by
  induction l with
  | nil => rfl
  | cons m l ih => rw [List.flatMap_cons, List.length_append, ih]; simp [impl_Item.cl]; omega
theorem impl_Item.cl_take (l : List S30) (i : Nat) : (l.flatMap impl_Item.cl).take (i * 4) = (l.take i).flatMap impl_Item.cl := by
  induction l generalizing i with
  | nil => simp
  | cons m l ih =>
    cases i with
    | zero => simp
    | succ i =>
      rw [List.flatMap_cons, List.take_succ_cons, List.flatMap_cons, ← ih i, List.take_append, show (impl_Item.cl m).length = 4 from rfl, show (i + 1) * 4 - 4 = i * 4 by omega, List.take_of_length_le (by simp [impl_Item.cl]; omega)]
theorem impl_Item.cl_drop (l : List S30) (i : Nat) : (l.flatMap impl_Item.cl).drop (i * 4) = (l.drop i).flatMap impl_Item.cl := by
  induction l generalizing i with
  | nil => simp
  | cons m l ih =>
    cases i with
    | zero => simp
    | succ i =>
      rw [List.flatMap_cons, List.drop_succ_cons, ← ih i, List.drop_append, show (impl_Item.cl m).length = 4 from rfl, show (i + 1) * 4 - 4 = i * 4 by omega, List.drop_eq_nil_of_le (by simp [impl_Item.cl]; omega), List.nil_append]
theorem impl_Item.cl_of_reps {w : World} {base : Nat} {ok : Nat → Prop} (l : List S30) : ∀ inner : List Value, Reps (k30.M w base ok) 4 l inner → inner = l.flatMap impl_Item.cl := by
  induction l with
  | nil => intro inner h; simpa using h.1
  | cons m l ih =>
    intro inner h
    have h0 := k30_openM (h.2 0 m rfl)
    rw [Nat.zero_mul, List.drop_zero] at h0
    have hl : inner.length = l.length * 4 + 4 := by have := h.1; simp at this; omega
    have ht := ih (inner.drop 4) ⟨by rw [List.length_drop]; omega, fun j p hj => by
      have := h.2 (j + 1) p (by simpa using hj)
      rw [List.drop_drop, show 4 + j * 4 = (j + 1) * 4 by omega]; exact this⟩
    rw [List.flatMap_cons, ← ht]
    conv => lhs; rw [← List.take_append_drop 4 inner]
    rw [h0]; rfl
theorem impl_Item.cl_reps (w : World) (base : Nat) (ok : Nat → Prop) (l : List S30) : Reps (k30.M w base ok) 4 l (l.flatMap impl_Item.cl) := by
  refine ⟨impl_Item.cl_length l, fun j p hj => ?_⟩
  rw [impl_Item.cl_drop]
  have hd : l.drop j = p :: l.drop (j + 1) := by
    obtain ⟨h1, h2⟩ := List.getElem?_eq_some_iff.1 hj
    rw [List.drop_eq_getElem_cons h1, h2]
  rw [hd, List.flatMap_cons]
  exact k30_mkM w base ok p
theorem impl_Item.R_cl {w : World} {base : Nat} {v : Value} {l : List S30} {ok : Nat → Prop} (h : w.ownsRow base 30 4 v l.length (l.flatMap impl_Item.cl)) (hok : ∀ k, v.ownBlock = some k → ok k) : Kd.R k30 30 w base ok v l :=
  ⟨hok, l.flatMap impl_Item.cl, h, impl_Item.cl_reps w base _ l⟩
def impl_Item.f (l0 : List S30) (a1 : Int) (l2 : List S30) : Option (List S30) := if 0 ≤ a1 ∧ a1 ≤ (l0.length : Int) ∧ l2.length = 1 ∧ l0.length < 3518437208882 then some (l0.take a1.toNat ++ l2 ++ l0.drop a1.toNat) else none
theorem impl_Item.calls (P0_ : Nat → Prop) (u9000_ : Value) (l0 : List S30) (a1 : Int) (A2 : Option Addr) (c2 : Nat) (l2 : List S30) (r : List S30) (w0 w : World) (hB : Below w0.heap.size w0 w) (ho0 : Kd.R k30 30 w w0.heap.size P0_ u9000_ l0) (hr2 : ∀ W_, Kept w W_ (fun k_ => P0_ k_) → Kd.C k30 W_ A2 l2.length l2) (hc2 : l2.length ≤ c2) (h : impl_Item.f l0 a1 l2 = some r) :
    Calls Try.prog 53 #[u9000_, .int .i64 a1, .slice A2 l2.length c2] w fun e w' => ∃ v0_ : Value, e = .returned (v0_) ∧ Kd.R k30 30 w' w0.heap.size (fun k_ => (P0_ k_ ∨ w.heap.size ≤ k_)) v0_ r ∧ Below w0.heap.size w0 w' ∧ Kept w w' (fun k_ => P0_ k_) := by
  unfold impl_Item.f at h
  by_cases hc : 0 ≤ a1 ∧ a1 ≤ (l0.length : Int) ∧ l2.length = 1 ∧ l0.length < 3518437208882
  case neg => rw [if_neg hc] at h; cases h
  rw [if_pos hc] at h
  obtain rfl := Option.some.inj h
  obtain ⟨h0, h1, h2, h3⟩ := hc
  obtain ⟨i, rfl⟩ := Int.eq_ofNat_of_zero_le h0
  obtain ⟨m, rfl⟩ : ∃ m, l2 = [m] := List.length_eq_one_iff.1 h2
  obtain ⟨hok, inner, hown, hreps⟩ := ho0
  obtain rfl := impl_Item.cl_of_reps l0 inner hreps
  have hown : w.ownsRow w0.heap.size 30 4 u9000_ l0.length (l0.flatMap impl_Item.cl) := hown
  obtain ⟨ad, rfl, hcell⟩ : ∃ ad, A2 = some ad ∧ ∀ j u, (impl_Item.cl m)[j]? = some u → w.cell? (ad.add j) = some u := by
    obtain ⟨_, _, hx⟩ := hr2 w (Kept.refl _ _)
    obtain ⟨ad, e, hx⟩ := hx (by simp)
    obtain ⟨c, hcl, hK, hcc⟩ := hx 0 m rfl
    obtain rfl := k30_open hK
    exact ⟨ad, e, fun j u hj => by have := hcc j u hj; simpa using this⟩
  have hfar : ∀ k, P0_ k → ad.block ≠ k := by
    intro k hk he
    have hkw : Kept w { w with heap := w.heap.modify k (fun _ => .cells #[] 30 (0, 0)) } (fun k_ => P0_ k_) :=
      ⟨by simp, fun j hj hn => by rw [Array.getElem?_modify, if_neg (fun e => hn (by rw [← e]; exact hk))]⟩
    obtain ⟨_, _, hx⟩ := hr2 _ hkw
    obtain ⟨ad', e, hx⟩ := hx (by simp)
    cases e
    obtain ⟨c, hcl, hK, hcc⟩ := hx 0 m rfl
    obtain rfl := k30_open hK
    have hz := hcc 0 _ rfl
    have hb : (ad.add (0 * k30.sz + 0)).block = k := by unfold Addr.add; split <;> exact he
    unfold World.cell? at hz
    rw [hb] at hz
    have hlt : k < w.heap.size := by rw [← he]; exact World.block_lt_of_cell? w ad (by have := hcell 0 _ rfl; simpa [Addr.add] using this)
    simp [Array.getElem?_modify, Array.getElem?_eq_getElem hlt] at hz
  have hbase := hB.size
  have hres : ((l0.take i ++ [m] ++ l0.drop i).flatMap impl_Item.cl) = (l0.flatMap impl_Item.cl).take (i * 4) ++ impl_Item.cl m ++ (l0.flatMap impl_Item.cl).drop (i * 4) := by
    rw [List.flatMap_append, List.flatMap_append, impl_Item.cl_take, impl_Item.cl_drop]; simp
  have hlen : (l0.take i ++ [m] ++ l0.drop i).length = l0.length + 1 := by simp; omega
  have hone := impl_Item.cl_one [m]
  simp only [List.flatMap_cons, List.flatMap_nil, List.append_nil] at hone
  have hone0 := impl_Item.cl_one l0
  by_cases hi : i = l0.length
  · subst hi
    refine (impl_Item.insEnd w0.heap.size u9000_ l0.length _ ad c2 (impl_Item.cl m) w hown rfl hcell hone hbase (by omega)).mono ?_
    rintro e w' ⟨v', rfl, hown1, hg, hat⟩
    refine ⟨v', rfl, impl_Item.R_cl ?_ (fun k hk => ?_), hB.grown hg hbase (own_base hown), Kept.of_grown hg (Kept.refl _ _) (fun k hk => .inl (hok k hk))⟩
    · show w'.ownsRow _ 30 4 v' ((l0.take ((l0.length : Int)).toNat ++ [m] ++ l0.drop ((l0.length : Int)).toNat)).length _
      simp only [Int.toNat_natCast]
      rw [hres, hlen, List.take_of_length_le (by rw [impl_Item.cl_length]; omega), List.drop_of_length_le (by rw [impl_Item.cl_length]; omega), List.append_nil]
      exact hown1
    · rcases hat with hat | hat
      · exact .inl (hok k (hat ▸ hk))
      · rw [hat] at hk; cases hk; exact .inr (Nat.le_refl _)
  · rcases hown.2 with ⟨rfl, hz⟩ | ⟨g, cap, cur, rfl, hbg, hg, hnc, hcm, hcs, htake⟩
    · omega
    · have hP : P0_ g := hok g rfl
      simp only [maxLen] at hcm
      by_cases hroom : l0.length + 1 ≤ cap
      · refine (impl_Item.insRoom g l0.length cap i cur ad c2 (impl_Item.cl m) w hg hcs hroom (by omega) hcm rfl hcell hone (by rw [htake]; exact hone0) (hfar g hP)).mono ?_
        rintro e w' ⟨rfl, rfl⟩
        have hgr : w.grownBy (w.drew.setRow g (impl_Item.insRow cur.toList (impl_Item.cl m) i l0.length).toArray) (some g) := ⟨rfl, rfl, rfl, by simp, fun k _ hk => setRow_other w.drew g k _ (fun e => hk (by rw [e]))⟩
        refine ⟨_, rfl, impl_Item.R_cl ?_ (fun k hk => ?_), hB.grown hgr hbase (fun k hk => by cases hk; exact hbg), Kept.of_grown hgr (Kept.refl _ _) (fun k hk => by cases hk; exact .inl hP)⟩
        · simp only [Int.toNat_natCast]
          rw [hres, hlen]
          have hcl : cur.toList.length = cap * 4 := by simpa using hcs
          have ht2 : cur.toList.take (i * 4) = (l0.flatMap impl_Item.cl).take (i * 4) := by rw [← htake, List.take_take, Nat.min_eq_left (by omega)]
          refine ⟨by simp only [List.length_append, List.length_take, List.length_drop, impl_Item.cl_length, show (impl_Item.cl m).length = 4 from rfl]; omega, .inr ⟨g, cap, _, rfl, hbg, setRow_heap w.drew g cur _ 30 _ hg, hroom, by simp only [maxLen]; exact hcm, ?_, ?_⟩⟩
          · simp only [List.size_toArray, impl_Item.insRow, List.length_append, List.length_take, List.length_drop, hcl, show (impl_Item.cl m).length = 4 from rfl]; omega
          · unfold impl_Item.insRow
            rw [ht2, htake, ← List.append_assoc]
            exact List.take_left' (by simp only [List.length_append, List.length_take, List.length_drop, impl_Item.cl_length, show (impl_Item.cl m).length = 4 from rfl]; omega)
        · cases hk; exact .inl hP
      · refine (impl_Item.insGrow g l0.length cap i cur ad c2 (impl_Item.cl m) w hg hcs hnc (by omega) (by omega) hcm (by omega) rfl hcell hone (by rw [htake]; exact hone0)).mono ?_
        rintro e w' ⟨G, rest, rfl, hN, hG1, hG2, hG3, hgr⟩
        refine ⟨_, rfl, impl_Item.R_cl ?_ (fun k hk => ?_), hB.grown hgr hbase (fun k hk => by cases hk), Kept.of_grown hgr (Kept.refl _ _) (fun k hk => by cases hk)⟩
        · simp only [Int.toNat_natCast]
          rw [hres, hlen]
          have ht2 : cur.toList.take (i * 4) = (l0.flatMap impl_Item.cl).take (i * 4) := by rw [← htake, List.take_take, Nat.min_eq_left (by omega)]
          rw [ht2, htake, ← List.append_assoc] at hN
          refine ⟨by simp only [List.length_append, List.length_take, List.length_drop, impl_Item.cl_length, show (impl_Item.cl m).length = 4 from rfl]; omega, .inr ⟨_, G, _, rfl, hbase, hN, hG1, by simp only [maxLen]; exact hG2, ?_, ?_⟩⟩
          · simp only [List.size_toArray, List.length_append, List.length_take, List.length_drop, impl_Item.cl_length, show (impl_Item.cl m).length = 4 from rfl]; omega
          · exact List.take_left' (by simp only [List.length_append, List.length_take, List.length_drop, impl_Item.cl_length, show (impl_Item.cl m).length = 4 from rfl]; omega)
        · cases hk; exact .inr (Nat.le_refl _)

end Go.Proofs.Ytfkhpenpdeknmaa.PFnUnions
