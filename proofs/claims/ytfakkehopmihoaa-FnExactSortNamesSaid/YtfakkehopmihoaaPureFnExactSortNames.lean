/- For every list of texts, the implementation's SortNames answers as the reference's, in rows of its own, and keeps none of its argument. -/
import Derived.Test.YtfakkehopmihoaaStatFnExactSortNames
import Derived.Lib.Strings
set_option linter.unusedVariables false
set_option linter.unusedSimpArgs false
namespace Go.Proofs.Ytfakkehopmihoaa.Pure
open Go.RowKit Go.Proofs.Ytfakkehopmihoaa.PFnExactSortNames Go.Proofs.YtfakkehopmihoaaW.PrintWords Go.Proofs.YtfakkehopmihoaaW.PrintLast

/-! ### plain words: from some number of rounds on -/
def Gets {α : Type} (f : Nat → Option α) (Q : α → Prop) : Prop := ∃ r, Ev f r ∧ Q r
theorem Gets.ret {α : Type} {Q : α → Prop} {r : α} (h : Q r) : Gets (fun _ => some r) Q := ⟨r, Ev.now r, h⟩
theorem Gets.none {α : Type} {Q : α → Prop} (h : False) : Gets (fun _ => (Option.none : Option α)) Q := h.elim
theorem Gets.step {α : Type} {g f : Nat → Option α} {Q : α → Prop} (h : ∀ k, g (k + 1) = f k) (k : Gets f Q) : Gets g Q := by
  obtain ⟨r, hr, hq⟩ := k
  exact ⟨r, Ev.step h hr, hq⟩
theorem Ev.ite {α : Type} {c : Prop} [Decidable c] {f g : Nat → Option α} {r : α} (h : c → Ev f r) (k : ¬ c → Ev g r) : Ev (fun n => if c then f n else g n) r := by
  by_cases hc : c
  · simp only [hc, if_true]; exact h hc
  · simp only [hc, if_false]; exact k hc
theorem Gets.ite {α : Type} {c : Prop} [Decidable c] {f g : Nat → Option α} {Q : α → Prop} (h : c → Gets f Q) (k : ¬ c → Gets g Q) : Gets (fun n => if c then f n else g n) Q := by
  by_cases hc : c
  · simp only [hc, if_true]; exact h hc
  · simp only [hc, if_false]; exact k hc
theorem Gets.pos {α : Type} {c : Prop} [Decidable c] {f g : Nat → Option α} {Q : α → Prop} (hc : c) (h : Gets f Q) : Gets (fun n => if c then f n else g n) Q := by
  simp only [hc, if_true]; exact h
theorem Gets.neg {α : Type} {c : Prop} [Decidable c] {f g : Nat → Option α} {Q : α → Prop} (hc : ¬ c) (h : Gets g Q) : Gets (fun n => if c then f n else g n) Q := by
  simp only [hc, if_false]; exact h
theorem Gets.bind {α β : Type} {g : Nat → Option α} {f : Nat → α → Option β} {P : α → Prop} {Q : β → Prop} (h : Gets g P) (k : ∀ a, P a → Gets (fun n => f n a) Q) : Gets (fun n => (g n).bind (f n)) Q := by
  obtain ⟨a, ha, hp⟩ := h
  obtain ⟨r, hr, hq⟩ := k a hp
  exact ⟨r, Ev.bind ha hr, hq⟩
theorem Gets.bindE {α β : Type} {g : Nat → Option α} {f : Nat → α → Option β} {a : α} {Q : β → Prop} (h : Ev g a) (k : Gets (fun n => f n a) Q) : Gets (fun n => (g n).bind (f n)) Q := by
  obtain ⟨r, hr, hq⟩ := k
  exact ⟨r, Ev.bind h hr, hq⟩
theorem Gets.mono {α : Type} {f : Nat → Option α} {P Q : α → Prop} (h : Gets f P) (k : ∀ a, P a → Q a) : Gets f Q := by
  obtain ⟨r, hr, hp⟩ := h
  exact ⟨r, hr, k r hp⟩
theorem Gets.rounds {α : Type} {f : Nat → Option α} {r : α} (h : Gets f (· = r)) : ∃ k, f k = some r := by
  obtain ⟨a, ha, rfl⟩ := h
  exact ha.rounds
theorem Gets.ev {α : Type} {f : Nat → Option α} {r : α} (h : Gets f (· = r)) : Ev f r := by
  obtain ⟨a, ha, rfl⟩ := h
  exact ha
theorem Ev.gets {α : Type} {f : Nat → Option α} {r : α} {Q : α → Prop} (h : Ev f r) (hq : Q r) : Gets f Q := ⟨r, h, hq⟩
theorem Gets.same {α : Type} {o : Option α} {Q : α → Prop} {r : α} (h : o = some r) (hq : Q r) : Gets (fun _ => o) Q := by
  subst h; exact Gets.ret hq
theorem wrapId {x : Int} (h0 : -9223372036854775808 ≤ x) (h1 : x ≤ 9223372036854775807) : wrap64 x = x := by
  unfold wrap64; omega
theorem i64_bd {n : Int} (h : (Lit.int .i64 n).wf = true) : -9223372036854775808 ≤ n ∧ n ≤ 9223372036854775807 := by
  have hm : IntKind.i64.min = -9223372036854775808 := rfl
  simp [Lit.wf, hm] at h
  exact h
theorem boolEq {a b : Bool} {P Q : Prop} (ha : a = true ↔ P) (hb : b = true ↔ Q) (h : P ↔ Q) : a = b := by
  rw [Bool.eq_iff_iff, ha, hb, h]
theorem tmod_nn {a b : Int} (h : 0 ≤ a) : Int.tmod a b = a % b := Int.tmod_eq_emod_of_nonneg h
theorem tdiv_nn {a b : Int} (h : 0 ≤ a) : Int.tdiv a b = a / b := Int.tdiv_eq_ediv_of_nonneg h

/-! ### rows of numbers -/
theorem rd_get {l : List Int} {i : Int} (h : i.toNat < l.length) : rd l i = l[i.toNat] := by
  unfold rd; rw [List.getD_eq_getElem?_getD, List.getElem?_eq_getElem h]; rfl
theorem fill_step {α : Type} (l : List α) (d : α) (i : Nat) (h : i < l.length) : (l.take i ++ List.replicate (l.length - i) d).set i l[i] = l.take (i + 1) ++ List.replicate (l.length - (i + 1)) d := by
  have e : List.replicate (l.length - i) d = d :: List.replicate (l.length - (i + 1)) d := by
    rw [show l.length - i = (l.length - (i + 1)) + 1 by omega]; rfl
  rw [e, List.set_append_right _ _ (by rw [List.length_take]; omega), List.length_take, show i - min i l.length = 0 by omega, List.set_cons_zero, List.take_succ_eq_append_getElem h, List.append_assoc]
  rfl
theorem drop_at {α : Type} (l : List α) (i : Nat) (h : i < l.length) : l.drop i = l[i] :: l.drop (i + 1) := List.drop_eq_getElem_cons h
def marks (k : Int) (n : Nat) : List Int := (List.range n).map (fun (i : Nat) => k + (i : Int))
theorem marks_length (k : Int) (n : Nat) : (marks k n).length = n := by simp [marks]
theorem marks_get (k : Int) (n i : Nat) (h : i < n) : (marks k n)[i]'(by rw [marks_length]; exact h) = k + i := by simp [marks]

/-! ### texts as lists of numbers -/
theorem bytesOf_inj {a b : ByteArray} (h : bytesOf a = bytesOf b) : a = b := by
  have hl : a.data.toList = b.data.toList := by
    unfold bytesOf at h
    exact List.map_inj_right (fun x y hxy => UInt8.toNat_inj.1 (by exact_mod_cast hxy)) |>.1 h
  have hd : a.data = b.data := Array.toList_inj.1 hl
  cases a; cases b; cases hd; rfl
theorem toList_iff (a b : ByteArray) : a.toList = b.toList ↔ a = b := by
  rw [Lib.toList_data, Lib.toList_data]
  exact ⟨fun h => bytesOf_inj (by unfold bytesOf; rw [h]), fun h => by rw [h]⟩
theorem bytesOf_range {s : ByteArray} {x : Int} (h : x ∈ bytesOf s) : 0 ≤ x ∧ x < 256 := by
  unfold bytesOf at h
  obtain ⟨b, _, rfl⟩ := List.mem_map.1 h
  have := b.toNat_lt
  omega
theorem bytesOf_str {xs : List Int} (h : ∀ x ∈ xs, 0 ≤ x ∧ x < 256) : bytesOf (strOfNums xs) = xs := by
  unfold bytesOf
  rw [strOfNums_data, List.map_map]
  conv => rhs; rw [← List.map_id xs]
  refine List.map_congr_left (fun x hx => ?_)
  have := h x hx
  simp only [Function.comp, UInt8.toNat_ofNat', id]
  omega
theorem str_bytesOf (s : ByteArray) : strOfNums (bytesOf s) = s := bytesOf_inj (bytesOf_str (fun _ => bytesOf_range))
theorem bytesOf_extract (s : ByteArray) (a b : Nat) : bytesOf (s.extract a b) = ((bytesOf s).drop a).take (b - a) := by
  unfold bytesOf
  rw [Lib.extract_data, List.map_take, List.map_drop]
theorem bytesOf_app (a b : ByteArray) : bytesOf (a ++ b) = bytesOf a ++ bytesOf b := by
  unfold bytesOf
  rw [← List.map_append]
  congr 1
  first | done | simp
theorem bt_getD (s : ByteArray) (i : Int) : bt s i = (bytesOf s).getD i.toNat 0 := (rd_bytesOf s i).symm
theorem bytesOf_empty : bytesOf (⟨#[]⟩ : ByteArray) = [] := rfl
theorem size_eq (s : ByteArray) : s.size = (bytesOf s).length := (bytesOf_length s).symm
theorem size_app (a b : ByteArray) : (a ++ b).size = a.size + b.size := by simp

theorem rdS_get {l : List ByteArray} {i : Int} (h : i.toNat < l.length) : rdOf ByteArray.empty l i = l[i.toNat] := by
  unfold rdOf; rw [List.getD_eq_getElem?_getD, List.getElem?_eq_getElem h]; rfl
def shortL (l : List ByteArray) : Bool := l.all (fun s => decide ((s.size : Int) ≤ 60))
theorem shortL_iff (l : List ByteArray) : shortL l = true ↔ ∀ s ∈ l, s.size ≤ 60 := by
  unfold shortL
  rw [List.all_eq_true]
  exact ⟨fun h s hs => by have := of_decide_eq_true (h s hs); omega, fun h s hs => decide_eq_true (by have := h s hs; omega)⟩
theorem shortL_cons (s : ByteArray) (l : List ByteArray) : shortL (s :: l) = (decide ((s.size : Int) ≤ 60) && shortL l) := rfl

/-! ### texts in their order -/
theorem tx_irrefl (a : List UInt8) : ¬ a < a := List.lt_irrefl a
theorem tx_trans {a b c : List UInt8} (h : a < b) (k : b < c) : a < c := List.lt_trans h k
theorem tx_le {a b : List UInt8} : a ≤ b ↔ ¬ b < a := Iff.rfl
theorem tx_tri : ∀ a b : List UInt8, a < b ∨ a = b ∨ b < a
  | [], [] => .inr (.inl rfl)
  | [], _ :: _ => .inl (by simp)
  | _ :: _, [] => .inr (.inr (by simp))
  | x :: a, y :: b => by
    rcases UInt8.lt_or_lt_of_ne (a := x) (b := y) |> fun f => (Classical.em (x = y)) with h | h
    · subst h
      rcases tx_tri a b with k | k | k
      · exact .inl (List.cons_lt_cons_iff.2 (.inr ⟨rfl, k⟩))
      · exact .inr (.inl (by rw [k]))
      · exact .inr (.inr (List.cons_lt_cons_iff.2 (.inr ⟨rfl, k⟩)))
    · rcases UInt8.lt_or_lt_of_ne h with k | k
      · exact .inl (List.cons_lt_cons_iff.2 (.inl k))
      · exact .inr (.inr (List.cons_lt_cons_iff.2 (.inl k)))
theorem tx_asymm {a b : List UInt8} (h : a < b) : ¬ b < a := fun k => tx_irrefl a (tx_trans h k)
theorem tx_of_le {a b : List UInt8} (h : a ≤ b) (hn : a ≠ b) : a < b := by
  rcases tx_tri a b with k | k | k
  · exact k
  · exact absurd k hn
  · exact absurd k h
theorem tx_le_trans {a b c : List UInt8} (h : a ≤ b) (k : b ≤ c) : a ≤ c := by
  intro hc
  rcases tx_tri a b with h1 | h1 | h1
  · exact k (tx_trans hc h1)
  · subst h1; exact k hc
  · exact h h1
theorem bl_iff : ∀ a b : List UInt8, Op.bytesLess a b = true ↔ a < b
  | [], [] => by simp [Op.bytesLess]
  | [], _ :: _ => by simp [Op.bytesLess]
  | _ :: _, [] => by simp [Op.bytesLess]
  | x :: a, y :: b => by
    have ih := bl_iff a b
    have hx : x < y ↔ x.toNat < y.toNat := UInt8.lt_iff_toNat_lt
    simp only [Op.bytesLess, List.cons_lt_cons_iff, Bool.or_eq_true, Bool.and_eq_true, decide_eq_true_eq, beq_iff_eq, ih]
theorem ascT_ext : ∀ a b : List (List UInt8), a.Pairwise (· < ·) → b.Pairwise (· < ·) → (∀ x, x ∈ a ↔ x ∈ b) → a = b := by
  intro a
  induction a with
  | nil =>
    intro b _ _ h
    cases b with
    | nil => rfl
    | cons y b => exact absurd ((h y).2 (List.mem_cons_self ..)) (by simp)
  | cons x a ih =>
    intro b ha hb h
    cases b with
    | nil => exact absurd ((h x).1 (List.mem_cons_self ..)) (by simp)
    | cons y b =>
      rw [List.pairwise_cons] at ha hb
      have e : x = y := by
        rcases List.mem_cons.1 ((h x).1 (List.mem_cons_self ..)) with h1 | h1
        · exact h1
        · rcases List.mem_cons.1 ((h y).2 (List.mem_cons_self ..)) with h2 | h2
          · exact h2.symm
          · exact absurd (hb.1 x h1) (tx_asymm (ha.1 y h2))
      subst e
      rw [ih b ha.2 hb.2 (fun z => ⟨fun hz => ?_, fun hz => ?_⟩)]
      · rcases List.mem_cons.1 ((h z).1 (List.mem_cons_of_mem _ hz)) with h1 | h1
        · exact absurd (h1 ▸ ha.1 z hz) (tx_irrefl _)
        · exact h1
      · rcases List.mem_cons.1 ((h z).2 (List.mem_cons_of_mem _ hz)) with h1 | h1
        · exact absurd (h1 ▸ hb.1 z hz) (tx_irrefl _)
        · exact h1
theorem compactT (z : List (List UInt8)) (hz : z.Pairwise (· ≤ ·)) : ∀ m, m ≤ z.length → (Lib.compactUpTo z.toArray m).Pairwise (· < ·) ∧ ∀ x, x ∈ Lib.compactUpTo z.toArray m ↔ x ∈ z.take m := by
  intro m
  induction m with
  | zero => intro _; simp [Lib.compactUpTo]
  | succ m ih =>
    intro hm
    obtain ⟨h1, h2⟩ := ih (by omega)
    have hg : ∀ j, (hj : j < z.length) → z.toArray[j]! = z[j] := by
      intro j hj
      rw [getElem!_pos _ j (by simpa using hj)]; simp
    rw [Lib.compactUpTo_succ, List.take_succ_eq_append_getElem (by omega)]
    rcases Nat.eq_zero_or_pos m with h0 | h0
    · subst h0
      rw [Lib.keeps_lt_one _ 0 (by omega), hg 0 (by omega)]
      simp [Lib.compactUpTo]
    · have hlast : z[m - 1] ∈ z.take m := by
        rw [List.mem_take_iff_getElem]
        exact ⟨m - 1, by omega, rfl⟩
      have hle : ∀ x ∈ z.take m, x ≤ z[m - 1] := by
        intro x hx
        rw [List.mem_take_iff_getElem] at hx
        obtain ⟨j, hj, rfl⟩ := hx
        rcases Nat.lt_or_ge j (m - 1) with hlt | hge
        · exact List.pairwise_iff_getElem.1 hz j (m - 1) _ _ hlt
        · have : j = m - 1 := by omega
          subst this; exact tx_irrefl _
      have hadj : z[m - 1] ≤ z[m] := List.pairwise_iff_getElem.1 hz (m - 1) m _ _ (by omega)
      by_cases hk : z[m] = z[m - 1]
      · rw [Lib.keeps_neg h0 (by rw [hg m (by omega), hg (m - 1) (by omega), hk])]
        simp only [Bool.false_eq_true, if_false, List.append_nil]
        refine ⟨h1, fun x => ?_⟩
        rw [h2, List.mem_append, List.mem_singleton]
        refine ⟨.inl, fun h => h.elim id (fun h => ?_)⟩
        rw [h, hk]
        exact hlast
      · rw [Lib.keeps_pos (by rw [hg m (by omega), hg (m - 1) (by omega)]; exact hk), hg m (by omega)]
        simp only [if_true]
        refine ⟨?_, fun x => ?_⟩
        · rw [List.pairwise_append]
          refine ⟨h1, List.pairwise_singleton _ _, fun a ha b hb => ?_⟩
          have e := List.mem_singleton.1 hb
          subst e
          have h5 := hle a ((h2 a).1 ha)
          have h6 : z[m - 1] < z[m] := tx_of_le hadj (fun h => hk h.symm)
          rcases tx_tri a z[m - 1] with h7 | h7 | h7
          · exact tx_trans h7 h6
          · exact h7 ▸ h6
          · exact absurd h7 h5
        · rw [List.mem_append, List.mem_append, h2, List.mem_singleton]
/-- What a text is in the order's eyes. -/
def tx (s : ByteArray) : List UInt8 := s.data.toList
def ofTx (l : List UInt8) : ByteArray := ⟨l.toArray⟩
theorem tx_of (l : List UInt8) : tx (ofTx l) = l := by simp [tx, ofTx]
theorem of_tx (s : ByteArray) : ofTx (tx s) = s := by simp [tx, ofTx]
theorem tx_toList (s : ByteArray) : s.toList = tx s := Lib.toList_data s
theorem map_tx_inj {a b : List ByteArray} (h : a.map tx = b.map tx) : a = b := by
  have := congrArg (List.map ofTx) h
  simpa [List.map_map, Function.comp_def, of_tx] using this
theorem sortedT (l : List (List UInt8)) : (l.mergeSort fun x y => decide (x ≤ y)).Pairwise (· ≤ ·) := by
  have h := List.pairwise_mergeSort (le := fun x y : List UInt8 => decide (x ≤ y)) (fun a b c h1 h2 => decide_eq_true (tx_le_trans (of_decide_eq_true h1) (of_decide_eq_true h2)))
    (fun a b => by
      rcases tx_tri a b with k | k | k
      · have h1 : a ≤ b := tx_asymm k
        simp only [decide_eq_true h1, Bool.true_or]
      · subst k
        have h1 : a ≤ a := tx_irrefl a
        simp only [decide_eq_true h1, Bool.true_or]
      · have h1 : b ≤ a := tx_asymm k
        simp only [decide_eq_true h1, Bool.or_true]) l
  exact h.imp (fun h => of_decide_eq_true h)
/-- The names of a list, ascending, each once. -/
def namesOf (l r : List ByteArray) : Prop := (r.map tx).Pairwise (· < ·) ∧ ∀ x, x ∈ r ↔ x ∈ l
theorem mem_tx {l : List ByteArray} {t : List UInt8} : t ∈ l.map tx ↔ ofTx t ∈ l := by
  rw [List.mem_map]
  exact ⟨fun ⟨a, h, e⟩ => by rw [← e, of_tx]; exact h, fun h => ⟨_, h, tx_of t⟩⟩
theorem namesOf_one {l a b : List ByteArray} (ha : namesOf l a) (hb : namesOf l b) : a = b := by
  refine map_tx_inj (ascT_ext _ _ ha.1 hb.1 (fun t => ?_))
  rw [mem_tx, mem_tx, ha.2, hb.2]
theorem names_sorted (l : List ByteArray) : namesOf l ((Lib.compact ((l.map fun x => x.data.toList).mergeSort fun x y => decide (x ≤ y))).map fun x => (⟨x.toArray⟩ : ByteArray)) := by
  have h := compactT _ (sortedT (l.map fun x => x.data.toList)) _ (Nat.le_refl _)
  have e : ((Lib.compact ((l.map fun x => x.data.toList).mergeSort fun x y => decide (x ≤ y))).map fun x => (⟨x.toArray⟩ : ByteArray)).map tx = Lib.compact ((l.map fun x => x.data.toList).mergeSort fun x y => decide (x ≤ y)) := by
    rw [List.map_map]
    conv => rhs; rw [← List.map_id (Lib.compact _)]
    exact List.map_congr_left (fun x _ => tx_of x)
  refine ⟨by rw [e]; exact h.1, fun x => ?_⟩
  have h3 : tx x ∈ (Lib.compact ((l.map fun x => x.data.toList).mergeSort fun x y => decide (x ≤ y))) ↔ tx x ∈ l.map tx := by
    have := h.2 (tx x)
    rw [List.take_length, List.mem_mergeSort] at this
    exact this
  rw [← e, mem_tx, mem_tx, of_tx] at h3
  exact h3
theorem names_len {l : List (List UInt8)} : (Lib.compact l).length ≤ l.length := Lib.compact_length_le l

theorem implSort (l : List ByteArray) (hl : l.length ≤ 1048576) : ∃ r, impl_SortNames.f l = some r ∧ namesOf l r ∧ r.length ≤ l.length := by
  refine ⟨_, ?_, names_sorted l, ?_⟩
  · unfold impl_SortNames.f slices_Clone_string_string.f slices_Sort_string_string.f slices_Compact_string_string.f slices_Clip_string_string.f
    simp only [Option.bind_some, List.length_nil, List.nil_append]
    rw [if_pos (by omega)]
    simp only [Option.bind_some]
    rw [if_pos (by omega)]
    simp only [Option.bind_some]
    congr 2
    have e : ∀ M : List (List UInt8), (M.map fun x => (⟨x.toArray⟩ : ByteArray)).map (fun x => x.data.toList) = M := by
      intro M
      rw [List.map_map]
      conv => rhs; rw [← List.map_id M]
      exact List.map_congr_left (fun x _ => tx_of x)
    rw [e]
  · rw [List.length_map]
    refine Nat.le_trans (Lib.compact_length_le _) ?_
    rw [List.length_mergeSort, List.length_map]
    exact Nat.le_refl _

theorem bl_tx (a b : ByteArray) : Op.bytesLess a.toList b.toList = true ↔ tx a < tx b := by rw [tx_toList, tx_toList]; exact bl_iff _ _
/-- Those below x; those above it. -/
def blw (x : ByteArray) (l : List ByteArray) : List ByteArray := l.filter fun y => Op.bytesLess y.toList x.toList
def abv (x : ByteArray) (l : List ByteArray) : List ByteArray := l.filter fun y => Op.bytesLess x.toList y.toList
theorem blw_snoc (x : ByteArray) (l : List ByteArray) (i : Nat) (h : i < l.length) : blw x (l.take (i + 1)) = blw x (l.take i) ++ if Op.bytesLess l[i].toList x.toList = true then [l[i]] else [] := by
  unfold blw
  rw [List.take_succ_eq_append_getElem h, List.filter_append]
  congr 1
  by_cases hb : Op.bytesLess l[i].toList x.toList = true <;> simp [hb]
theorem abv_snoc (x : ByteArray) (l : List ByteArray) (i : Nat) (h : i < l.length) : abv x (l.take (i + 1)) = abv x (l.take i) ++ if Op.bytesLess x.toList l[i].toList = true then [l[i]] else [] := by
  unfold abv
  rw [List.take_succ_eq_append_getElem h, List.filter_append]
  congr 1
  by_cases hb : Op.bytesLess x.toList l[i].toList = true <;> simp [hb]
theorem blw_len (x : ByteArray) (l : List ByteArray) : (blw x l).length ≤ l.length := List.length_filter_le _ _
theorem abv_len (x : ByteArray) (l : List ByteArray) : (abv x l).length ≤ l.length := List.length_filter_le _ _
theorem insS_l1 (l : List ByteArray) (x : ByteArray) (B : List ByteArray) (hB : B.length ≤ 1048577) (hl : l.length ≤ 1048576) (d : Nat) : ∀ i : Nat, l.length - i = d → i ≤ l.length → Gets (fun k => spec_l03Insert.l1 k l x (B ++ abv x (l.take i)) (i : Int)) (· = B ++ abv x l) := by
  induction d with
  | zero =>
    intro i hd hi
    refine Gets.step (fun k => spec_l03Insert.l1.eq_2 ..) (Gets.neg (by omega) (Gets.ret ?_))
    rw [List.take_of_length_le (by omega)]
  | succ d ih =>
    intro i hd hi
    refine Gets.step (fun k => spec_l03Insert.l1.eq_2 ..) (Gets.pos (by omega) (Gets.pos (by omega) ?_))
    have e1 : rdOf ByteArray.empty l (i : Int) = l[i] := rdS_get (by omega)
    have e2 : wrap64 ((i : Int) + 1) = ((i + 1 : Nat) : Int) := by rw [wrapId (by omega) (by omega)]; omega
    have hs := abv_snoc x l i (by omega)
    have h3 := abv_len x (l.take i)
    rw [List.length_take] at h3
    rw [e1, e2]
    refine Gets.ite (fun h => ?_) (fun h => ?_)
    · rw [if_pos h] at hs
      refine Gets.pos (by rw [List.length_append]; omega) ?_
      rw [List.append_assoc, ← hs]
      exact ih (i + 1) (by omega) (by omega)
    · rw [if_neg h, List.append_nil] at hs
      rw [← hs]
      exact ih (i + 1) (by omega) (by omega)
theorem insS_l0 (l : List ByteArray) (x : ByteArray) (hl : l.length ≤ 1048576) (d : Nat) : ∀ i : Nat, l.length - i = d → i ≤ l.length → Gets (fun k => spec_l03Insert.l0 k l x (blw x (l.take i)) (i : Int)) (· = blw x l ++ [x] ++ abv x l) := by
  induction d with
  | zero =>
    intro i hd hi
    rw [List.take_of_length_le (by omega)]
    have h3 := blw_len x l
    refine Gets.step (fun k => spec_l03Insert.l0.eq_2 ..) (Gets.neg (by omega) (Gets.pos (by omega) ?_))
    have h := insS_l1 l x (blw x l ++ [x]) (by simp; omega) hl l.length 0 rfl (by omega)
    simpa [abv] using h
  | succ d ih =>
    intro i hd hi
    refine Gets.step (fun k => spec_l03Insert.l0.eq_2 ..) (Gets.pos (by omega) (Gets.pos (by omega) ?_))
    have e1 : rdOf ByteArray.empty l (i : Int) = l[i] := rdS_get (by omega)
    have e2 : wrap64 ((i : Int) + 1) = ((i + 1 : Nat) : Int) := by rw [wrapId (by omega) (by omega)]; omega
    have hs := blw_snoc x l i (by omega)
    have h3 := blw_len x (l.take i)
    rw [List.length_take] at h3
    rw [e1, e2]
    refine Gets.ite (fun h => ?_) (fun h => ?_)
    · rw [if_pos h] at hs
      refine Gets.pos (by omega) ?_
      rw [← hs]
      exact ih (i + 1) (by omega) (by omega)
    · rw [if_neg h, List.append_nil] at hs
      rw [← hs]
      exact ih (i + 1) (by omega) (by omega)
theorem insS (l : List ByteArray) (x : ByteArray) (hl : l.length ≤ 1048576) : Gets (fun k => spec_l03Insert.f k l x) (· = blw x l ++ [x] ++ abv x l) := by
  unfold spec_l03Insert.f
  exact insS_l0 l x hl l.length 0 rfl (by omega)
theorem ins_asc (l : List ByteArray) (x : ByteArray) (h : (l.map tx).Pairwise (· < ·)) : ((blw x l ++ [x] ++ abv x l).map tx).Pairwise (· < ·) := by
  have hs : ∀ (p : ByteArray → Bool), ((l.filter p).map tx).Pairwise (· < ·) := fun p => List.Pairwise.sublist (List.Sublist.map tx List.filter_sublist) h
  have h1 : ∀ t ∈ (blw x l).map tx, t < tx x := by
    intro t ht
    obtain ⟨y, hy, rfl⟩ := List.mem_map.1 ht
    exact (bl_tx y x).1 (List.mem_filter.1 hy).2
  have h2 : ∀ t ∈ (abv x l).map tx, tx x < t := by
    intro t ht
    obtain ⟨y, hy, rfl⟩ := List.mem_map.1 ht
    exact (bl_tx x y).1 (List.mem_filter.1 hy).2
  rw [List.map_append, List.map_append, List.pairwise_append, List.pairwise_append]
  refine ⟨⟨hs _, List.pairwise_singleton _ _, fun a ha b hb => ?_⟩, hs _, fun a ha b hb => ?_⟩
  · rw [List.map_singleton, List.mem_singleton] at hb
    exact hb ▸ h1 a ha
  · rcases List.mem_append.1 ha with ha | ha
    · exact tx_trans (h1 a ha) (h2 b hb)
    · rw [List.map_singleton, List.mem_singleton] at ha
      exact ha ▸ h2 b hb
theorem ins_mem (l : List ByteArray) (x y : ByteArray) : y ∈ blw x l ++ [x] ++ abv x l ↔ y = x ∨ y ∈ l := by
  unfold blw abv
  rw [List.mem_append, List.mem_append, List.mem_singleton, List.mem_filter, List.mem_filter, bl_tx, bl_tx]
  constructor
  · rintro ((h | h) | h)
    · exact .inr h.1
    · exact .inl h
    · exact .inr h.1
  · rintro (h | h)
    · exact .inl (.inr h)
    · rcases tx_tri (tx y) (tx x) with k | k | k
      · exact .inl (.inl ⟨h, k⟩)
      · exact .inl (.inr (by rw [← of_tx y, k, of_tx]))
      · exact .inr ⟨h, k⟩
theorem ins_len (l : List ByteArray) (x : ByteArray) (h : (l.map tx).Pairwise (· < ·)) : (blw x l ++ [x] ++ abv x l).length ≤ l.length + 1 := by
  have hd : ∀ m : List ByteArray, (blw x m).length + (abv x m).length ≤ m.length := by
    intro m
    induction m with
    | nil => simp [blw, abv]
    | cons y m ih =>
      unfold blw abv at ih ⊢
      rw [List.filter_cons, List.filter_cons]
      by_cases h1 : Op.bytesLess y.toList x.toList = true
      · have h2 : ¬ Op.bytesLess x.toList y.toList = true := fun h2 => tx_asymm ((bl_tx _ _).1 h1) ((bl_tx _ _).1 h2)
        rw [if_pos h1, if_neg h2, List.length_cons, List.length_cons]
        omega
      · rw [if_neg h1]
        split <;> simp only [List.length_cons] <;> omega
  have := hd l
  simp only [List.length_append, List.length_singleton]
  omega
theorem specS_l0 (l : List ByteArray) (hl : l.length ≤ 1048576) (d : Nat) : ∀ (i : Nat) (a : List ByteArray), l.length - i = d → i ≤ l.length → namesOf (l.take i) a → a.length ≤ i → Gets (fun k => spec_SortNames.l0 k l a (i : Int)) (fun r => namesOf l r ∧ r.length ≤ l.length) := by
  induction d with
  | zero =>
    intro i a hd hi ha hn
    refine Gets.step (fun k => spec_SortNames.l0.eq_2 ..) (Gets.neg (by omega) (Gets.ret ?_))
    rw [List.take_of_length_le (by omega)] at ha
    exact ⟨ha, by omega⟩
  | succ d ih =>
    intro i a hd hi ha hn
    refine Gets.step (fun k => spec_SortNames.l0.eq_2 ..) (Gets.pos (by omega) (Gets.pos (by omega) ?_))
    have e1 : rdOf ByteArray.empty l (i : Int) = l[i] := rdS_get (by omega)
    have e2 : wrap64 ((i : Int) + 1) = ((i + 1 : Nat) : Int) := by rw [wrapId (by omega) (by omega)]; omega
    rw [e1, e2]
    refine Gets.bindE (insS a l[i] (by omega)).ev (ih (i + 1) _ (by omega) (by omega) ⟨ins_asc _ _ ha.1, fun x => ?_⟩ (Nat.le_trans (ins_len _ _ ha.1) (by omega)))
    rw [ins_mem, ha.2, List.take_succ_eq_append_getElem (by omega), List.mem_append, List.mem_singleton]
    exact or_comm
theorem specSort (l : List ByteArray) (hl : l.length ≤ 1048576) : Gets (fun k => spec_SortNames.f k l) (fun r => namesOf l r ∧ r.length ≤ l.length) := by
  unfold spec_SortNames.f
  exact specS_l0 l hl l.length 0 [] rfl (by omega) ⟨by simp, by simp⟩ (by simp)

def sizedS (l : List ByteArray) : Prop := l.length ≤ 1048576 ∧ ∀ m ∈ l, m.size ≤ 1048576
theorem szStringS_l0 (l : List ByteArray) (hl : l.length ≤ 1048576) (hg : ∀ m ∈ l, m.size ≤ maxLen) (d : Nat) : ∀ (i : Nat) (m : Int), l.length - i = d → i ≤ l.length → 0 ≤ m → m ≤ 1048576 → Gets (fun k => laws_szStringS.l0 k l m (i : Int)) (fun r => r < 0 ∨ (0 ≤ r ∧ r ≤ m ∧ ∀ x ∈ l.drop i, x.size ≤ 1048576)) := by
  induction d with
  | zero =>
    intro i m hd hi h0 h1
    refine Gets.step (fun k => laws_szStringS.l0.eq_2 ..) (Gets.neg (by omega) (Gets.ret (.inr ⟨h0, Int.le_refl _, ?_⟩)))
    rw [List.drop_of_length_le (by omega)]
    simp
  | succ d ih =>
    intro i m hd hi h0 h1
    refine Gets.step (fun k => laws_szStringS.l0.eq_2 ..) (Gets.pos (by omega) (Gets.pos (by omega) ?_))
    have hx := hg _ (List.getElem_mem (show i < l.length by omega))
    unfold maxLen at hx
    have e : rdOf ByteArray.empty l (i : Int) = l[i] := rdS_get (by omega)
    simp only [e]
    rw [wrapId (x := m - (l[i].size : Int)) (by omega) (by omega), wrapId (x := (i : Int) + 1) (by omega) (by omega), drop_at l i (by omega)]
    rw [show ((i : Int) + 1) = ((i + 1 : Nat) : Int) by omega]
    refine Gets.ite (fun h => Gets.ret (.inl (by omega))) (fun h => ?_)
    refine (ih (i + 1) _ (by omega) (by omega) (by omega) (by omega)).mono (fun r hr => ?_)
    rcases hr with hr | ⟨h2, h3, h4⟩
    · exact .inl hr
    · refine .inr ⟨h2, by omega, fun x hx => ?_⟩
      rcases List.mem_cons.1 hx with rfl | hx
      · omega
      · exact h4 x hx
theorem szStringS (l : List ByteArray) (m : Int) (hm : 0 ≤ m ∧ m ≤ 1048576) (hl : l.length ≤ maxLen) (hg : ∀ m ∈ l, m.size ≤ maxLen) : Gets (fun k => laws_szStringS.f k l m) (fun r => r < 0 ∨ (0 ≤ r ∧ r ≤ m ∧ sizedS l)) := by
  unfold maxLen at hl
  unfold laws_szStringS.f
  rw [wrapId (by omega) (by omega)]
  refine Gets.ite (fun h => Gets.ret (.inl (by omega))) (fun h => ?_)
  refine (szStringS_l0 l (by omega) hg l.length 0 _ (by omega) (by omega) (by omega) (by omega)).mono (fun r hr => ?_)
  rcases hr with hr | ⟨h2, h3, h4⟩
  · exact .inl hr
  · exact .inr ⟨h2, by omega, by omega, fun x hx => h4 x (by simpa using hx)⟩

theorem toStringS_l0 (l : List ByteArray) (hl : l.length ≤ 17592186044416) (d : Nat) : ∀ i : Nat, l.length - i = d → i ≤ l.length → Gets (fun k => laws_toStringS.l0 k l (l.take i ++ List.replicate (l.length - i) (⟨#[]⟩ : ByteArray)) (i : Int)) (· = l) := by
  induction d with
  | zero =>
    intro i hd hi
    refine Gets.step (fun k => laws_toStringS.l0.eq_2 ..) (Gets.neg (by omega) (Gets.ret ?_))
    rw [show i = l.length by omega]
    simp
  | succ d ih =>
    intro i hd hi
    refine Gets.step (fun k => laws_toStringS.l0.eq_2 ..) (Gets.pos (by omega) (Gets.pos (by omega) (Gets.pos (by simp; omega) ?_)))
    rw [rdS_get (by omega), wrapId (by omega) (by omega)]
    simp only [Int.toNat_natCast]
    rw [fill_step l (⟨#[]⟩ : ByteArray) i (by omega), show ((i : Int) + 1) = ((i + 1 : Nat) : Int) by omega]
    exact ih (i + 1) (by omega) (by omega)
theorem toStringS (l : List ByteArray) (hl : l.length ≤ 17592186044416) : Gets (fun k => laws_toStringS.f k l) (· = l) := by
  unfold laws_toStringS.f
  refine Gets.pos (by omega) (Gets.pos (by omega) ?_)
  exact toStringS_l0 l hl l.length 0 (by omega) (by omega)

theorem eqStringS_l0 (a b : List ByteArray) (ha : a.length ≤ 35184372088832) (hab : a.length = b.length) (d : Nat) : ∀ i : Nat, a.length - i = d → i ≤ a.length → Gets (fun k => laws_eqStringS.l0 k a b (i : Int)) (fun r => r = true ↔ a.drop i = b.drop i) := by
  induction d with
  | zero =>
    intro i hd hi
    refine Gets.step (fun k => laws_eqStringS.l0.eq_2 ..) (Gets.neg (by omega) (Gets.ret ?_))
    rw [List.drop_of_length_le (by omega), List.drop_of_length_le (by omega)]
    simp
  | succ d ih =>
    intro i hd hi
    refine Gets.step (fun k => laws_eqStringS.l0.eq_2 ..) (Gets.pos (by omega) (Gets.pos (by omega) (Gets.pos (by omega) ?_)))
    have e1 : rdOf ByteArray.empty a (i : Int) = a[i] := rdS_get (by omega)
    have e2 : rdOf ByteArray.empty b (i : Int) = b[i] := rdS_get (by omega)
    simp only [e1, e2]
    rw [wrapId (by omega) (by omega), drop_at a i (by omega), drop_at b i (by omega)]
    refine Gets.ite (fun h => ?_) (fun h => Gets.ret ?_)
    · rw [show ((i : Int) + 1) = ((i + 1 : Nat) : Int) by omega]
      refine (ih (i + 1) (by omega) (by omega)).mono (fun r hr => ?_)
      rw [hr]
      simp only [List.cons.injEq, (toList_iff _ _).1 h, true_and]
    · have hne : ¬ a[i] = b[i] := fun e => h (by rw [e])
      simp only [List.cons.injEq, hne, false_and, Bool.false_eq_true]
theorem eqStringS (a b : List ByteArray) (ha : a.length ≤ 35184372088832) : Gets (fun k => laws_eqStringS.f k a b) (fun r => r = true ↔ a = b) := by
  unfold laws_eqStringS.f
  refine Gets.ite (fun h => ?_) (fun h => Gets.ret ?_)
  · exact eqStringS_l0 a b ha (by omega) a.length 0 (by omega) (by omega)
  · simp only [Bool.false_eq_true, false_iff]
    rintro rfl
    exact h rfl
theorem eqStringS_true (a : List ByteArray) (ha : a.length ≤ 35184372088832) : Gets (fun k => laws_eqStringS.f k a a) (fun r => r = true) := (eqStringS a a ha).mono (fun r hr => hr.2 rfl)

theorem markText_l0 (d : Nat) : ∀ (n : Nat) (s : ByteArray), n < 10 ^ d → s.size + d ≤ 1000 → n ≤ 9000000000 → ∃ t, Ev (fun k => laws_markText.l0 k (n : Int) s) t := by
  induction d with
  | zero =>
    intro n s h hs hn
    have e : Gets (fun k => laws_markText.l0 k (n : Int) s) (fun _ => True) := Gets.step (fun k => laws_markText.l0.eq_2 ..) (Gets.neg (by omega) (Gets.pos (by omega) (Gets.ret trivial)))
    obtain ⟨t, ht, _⟩ := e
    exact ⟨t, ht⟩
  | succ d ih =>
    intro n s h hs hn
    have e : Gets (fun k => laws_markText.l0 k (n : Int) s) (fun _ => True) := by
      refine Gets.step (fun k => laws_markText.l0.eq_2 ..) (Gets.ite (fun h1 => ?_) (fun h1 => Gets.pos (by omega) (Gets.ret trivial)))
      simp only [Option.bind_some]
      refine Gets.pos (by rw [strOfNums_size]; simp; omega) ?_
      rw [tdiv_nn (by omega), wrapId (x := (n : Int) / 10) (by omega) (by omega), show (n : Int) / 10 = ((n / 10 : Nat) : Int) by omega]
      obtain ⟨t, ht⟩ := ih (n / 10) (strOfNums [(wrap64 (48 + (Int.tmod n 10))) % 256] ++ s) (by
        have : (10 : Nat) ^ (d + 1) = 10 ^ d * 10 := Nat.pow_succ ..
        rw [Nat.div_lt_iff_lt_mul (by omega)]; omega) (by simp [strOfNums_size]; omega) (by omega)
      exact Ev.gets ht trivial
    obtain ⟨t, ht, _⟩ := e
    exact ⟨t, ht⟩
theorem markText_some (n : Int) (h0 : 0 ≤ n) (h1 : n ≤ 9000000000) : ∃ t, Ev (fun k => laws_markText.f k n) t := by
  by_cases h : n ≤ 0
  · exact ⟨_, (Gets.pos (f := fun _ => some (⟨#[109, 48]⟩ : ByteArray)) (g := fun k => laws_markText.l0 k n (⟨#[]⟩ : ByteArray)) (Q := (· = (⟨#[109, 48]⟩ : ByteArray))) h (Gets.ret rfl)).ev⟩
  · obtain ⟨m, rfl⟩ := Int.eq_ofNat_of_zero_le h0
    obtain ⟨t, ht⟩ := markText_l0 10 m (⟨#[]⟩ : ByteArray) (by have : (10 : Nat) ^ 10 = 10000000000 := by decide
                                                               omega) (by decide) (by omega)
    exact ⟨t, (Gets.neg (f := fun _ => some (⟨#[109, 48]⟩ : ByteArray)) h (Ev.gets (Q := (· = t)) ht rfl)).ev⟩
/-- The text that marks n. -/
noncomputable def mtx (n : Int) : ByteArray := if h : 0 ≤ n ∧ n ≤ 9000000000 then Classical.choose (markText_some n h.1 h.2) else ⟨#[]⟩
theorem markText (n : Int) (h0 : 0 ≤ n) (h1 : n ≤ 9000000000) : Ev (fun k => laws_markText.f k n) (mtx n) := by
  unfold mtx
  rw [dif_pos ⟨h0, h1⟩]
  exact Classical.choose_spec (markText_some n h0 h1)

noncomputable def marksS (k : Int) (n : Nat) : List ByteArray := (List.range n).map (fun (i : Nat) => mtx (k + (i : Int)))
theorem marksS_length (k : Int) (n : Nat) : (marksS k n).length = n := by simp [marksS]
theorem marksS_get (k : Int) (n i : Nat) (h : i < n) : (marksS k n)[i]'(by rw [marksS_length]; exact h) = mtx (k + i) := by simp [marksS]
theorem markStringS_l0 (n : Nat) (m : Int) (hn : n ≤ 9000000) (hm : 0 ≤ m ∧ m ≤ 900000000) (d : Nat) : ∀ (i : Nat) (l : List ByteArray), n - i = d → i ≤ n → l.length = n → l.take i = marksS m i → Gets (fun k => laws_markStringS.l0 k l (m + i) (i : Int)) (· = (m + n, marksS m n)) := by
  induction d with
  | zero =>
    intro i l hd hi hl ht
    refine Gets.step (fun k => laws_markStringS.l0.eq_2 ..) (Gets.neg (by omega) (Gets.ret ?_))
    obtain rfl : i = n := by omega
    rw [List.take_of_length_le (by omega)] at ht
    rw [ht]
  | succ d ih =>
    intro i l hd hi hl ht
    refine Gets.step (fun k => laws_markStringS.l0.eq_2 ..) (Gets.pos (by omega) ?_)
    refine Gets.bindE (markText _ (by omega) (by omega)) (Gets.pos (by omega) ?_)
    rw [wrapId (by omega) (by omega), wrapId (by omega) (by omega)]
    simp only [Int.toNat_natCast]
    rw [show ((i : Int) + 1) = ((i + 1 : Nat) : Int) by omega, show m + (i : Int) + 1 = m + ((i + 1 : Nat) : Int) by omega]
    refine ih (i + 1) _ (by omega) (by omega) (by simpa using hl) ?_
    have hlt : i < (l.set i (mtx (m + i))).length := by rw [List.length_set]; omega
    rw [List.take_succ_eq_append_getElem hlt, List.getElem_set_self, List.take_set_of_le (by omega), ht]
    simp [marksS, List.range_succ]
theorem markStringS (l : List ByteArray) (m : Int) (hn : l.length ≤ 9000000) (hm : 0 ≤ m ∧ m ≤ 900000000) : Gets (fun k => laws_markStringS.f k l m) (· = (m + l.length, marksS m l.length)) := by
  unfold laws_markStringS.f
  have h := markStringS_l0 l.length m hn hm l.length 0 l (by omega) (by omega) rfl (by simp [marksS])
  simpa using h
theorem heldStringS_l0 (n : Nat) (m : Int) (hn : n ≤ 9000000) (hm : 0 ≤ m ∧ m ≤ 900000000) (d : Nat) : ∀ (i : Nat), n - i = d → i ≤ n → Gets (fun k => laws_heldStringS.l0 k (marksS m n) (m + i) (i : Int)) (· = m + n) := by
  induction d with
  | zero =>
    intro i hd hi
    refine Gets.step (fun k => laws_heldStringS.l0.eq_2 ..) (Gets.neg (by rw [marksS_length]; omega) (Gets.ret ?_))
    rw [show i = n by omega]
  | succ d ih =>
    intro i hd hi
    have e : rdOf ByteArray.empty (marksS m n) (i : Int) = mtx (m + i) := by
      rw [rdS_get (by rw [marksS_length]; omega)]
      exact marksS_get m n i (by omega)
    refine Gets.step (fun k => laws_heldStringS.l0.eq_2 ..) (Gets.pos (by rw [marksS_length]; omega) (Gets.pos (by omega) ?_))
    simp only [e]
    rw [wrapId (by omega) (by omega), wrapId (by omega) (by omega)]
    refine Gets.bindE (markText _ (by omega) (by omega)) (Gets.pos rfl ?_)
    rw [show ((i : Int) + 1) = ((i + 1 : Nat) : Int) by omega, show m + (i : Int) + 1 = m + ((i + 1 : Nat) : Int) by omega]
    exact ih (i + 1) (by omega) (by omega)
theorem heldStringS (m : Int) (n : Nat) (hn : n ≤ 9000000) (hm : 0 ≤ m ∧ m ≤ 900000000) : Gets (fun k => laws_heldStringS.f k (marksS m n) m) (· = m + n) := by
  unfold laws_heldStringS.f
  have h := heldStringS_l0 n m hn hm n 0 (by omega) (by omega)
  simpa using h

theorem FnExactSortNames : Stat.FnExactSortNames := by
  intro l hb
  refine Gets.rounds ?_
  unfold laws_FnExactSortNames.f
  refine Gets.bind (szStringS l 1048576 (by omega) hb.1 hb.2) (fun z hz => Gets.ite (fun _ => Gets.ret rfl) (fun hn => ?_))
  obtain ⟨_, _, hl, _⟩ := hz.resolve_left hn
  obtain ⟨g, hg, hg2, hg3⟩ := implSort l hl
  refine Gets.bindE (toStringS l (by omega)).ev (Gets.bind (specSort l hl) (fun w hw => Gets.bindE (toStringS l (by omega)).ev ?_))
  obtain rfl : w = g := namesOf_one hw.1 hg2
  simp only [hg, Option.bind_some]
  refine Gets.bind (eqStringS_true w (by omega)) (fun t ht => Gets.pos ht ?_)
  refine Gets.bindE (toStringS l (by omega)).ev (Gets.bind (eqStringS_true l (by omega)) (fun t ht => Gets.pos ht ?_))
  refine Gets.bindE (markStringS l 1 (by omega) (by omega)).ev (Gets.neg (by omega) (Gets.bind (eqStringS_true w (by omega)) (fun t ht => ?_)))
  subst ht
  refine Gets.step (fun k => laws_FnExactSortNames.j0.eq_2 ..) (Gets.neg (by simp) ?_)
  refine Gets.bindE (markStringS w 1 (by omega) (by omega)).ev (Gets.bindE (heldStringS 1 _ (by omega) (by omega)).ev (Gets.neg (by omega) (Gets.pos rfl ?_)))
  refine Gets.bindE (toStringS l (by omega)).ev ?_
  simp only [hg, Option.bind_some]
  refine Gets.bind (eqStringS_true w (by omega)) (fun t ht => Gets.pos ht ?_)
  exact Gets.bindE (heldStringS 1 _ (by omega) (by omega)).ev (Gets.neg (by omega) (Gets.pos rfl (Gets.ret rfl)))

end Go.Proofs.Ytfakkehopmihoaa.Pure
