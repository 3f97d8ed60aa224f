/- For every code, sorted names ascend and hold what the list held. -/
import Derived.Test.YtfakkehopmihoaaStatFnSorts
import Derived.Lib.Strings
set_option linter.unusedVariables false
set_option linter.unusedSimpArgs false
namespace Go.Proofs.Ytfakkehopmihoaa.Pure
open Go.RowKit Go.Proofs.Ytfakkehopmihoaa.PFnSorts Go.Proofs.YtfakkehopmihoaaW.PrintWords Go.Proofs.YtfakkehopmihoaaW.PrintLast

/-! ### plain words: from some number of rounds on -/
def Gets {α : Type} (f : Nat → Option α) (Q : α → Prop) : Prop := ∃ r, Ev f r ∧ Q r
theorem Gets.ret {α : Type} {Q : α → Prop} {r : α} (h : Q r) : Gets (fun _ => some r) Q := ⟨r, Ev.now r, h⟩
theorem Gets.none {α : Type} {Q : α → Prop} (h : False) : Gets (fun _ => (Option.none : Option α)) Q := h.elim
theorem Gets.step {α : Type} {g f : Nat → Option α} {Q : α → Prop} (h : ∀ k, g (k + 1) = f k) (k : Gets f Q) : Gets g Q := by
  obtain ⟨r, hr, hq⟩ := k
  exact ⟨r, Ev.step h hr, hq⟩
theorem Ev.ite {α : Type} {c : Prop} [Decidable c] {f g : Nat → Option α} {r : α} (h : c → Ev f r) (k : ¬ c → Ev g r) : Ev (fun n => if c then f n else g n) r := by
  by_cases hc : c
  · simp only [hc, if_true]; exact h hc
  · simp only [hc, if_false]; exact k hc
theorem Gets.ite {α : Type} {c : Prop} [Decidable c] {f g : Nat → Option α} {Q : α → Prop} (h : c → Gets f Q) (k : ¬ c → Gets g Q) : Gets (fun n => if c then f n else g n) Q := by
  by_cases hc : c
  · simp only [hc, if_true]; exact h hc
  · simp only [hc, if_false]; exact k hc
theorem Gets.pos {α : Type} {c : Prop} [Decidable c] {f g : Nat → Option α} {Q : α → Prop} (hc : c) (h : Gets f Q) : Gets (fun n => if c then f n else g n) Q := by
  simp only [hc, if_true]; exact h
theorem Gets.neg {α : Type} {c : Prop} [Decidable c] {f g : Nat → Option α} {Q : α → Prop} (hc : ¬ c) (h : Gets g Q) : Gets (fun n => if c then f n else g n) Q := by
  simp only [hc, if_false]; exact h
theorem Gets.bind {α β : Type} {g : Nat → Option α} {f : Nat → α → Option β} {P : α → Prop} {Q : β → Prop} (h : Gets g P) (k : ∀ a, P a → Gets (fun n => f n a) Q) : Gets (fun n => (g n).bind (f n)) Q := by
  obtain ⟨a, ha, hp⟩ := h
  obtain ⟨r, hr, hq⟩ := k a hp
  exact ⟨r, Ev.bind ha hr, hq⟩
theorem Gets.bindE {α β : Type} {g : Nat → Option α} {f : Nat → α → Option β} {a : α} {Q : β → Prop} (h : Ev g a) (k : Gets (fun n => f n a) Q) : Gets (fun n => (g n).bind (f n)) Q := by
  obtain ⟨r, hr, hq⟩ := k
  exact ⟨r, Ev.bind h hr, hq⟩
theorem Gets.mono {α : Type} {f : Nat → Option α} {P Q : α → Prop} (h : Gets f P) (k : ∀ a, P a → Q a) : Gets f Q := by
  obtain ⟨r, hr, hp⟩ := h
  exact ⟨r, hr, k r hp⟩
theorem Gets.rounds {α : Type} {f : Nat → Option α} {r : α} (h : Gets f (· = r)) : ∃ k, f k = some r := by
  obtain ⟨a, ha, rfl⟩ := h
  exact ha.rounds
theorem Gets.ev {α : Type} {f : Nat → Option α} {r : α} (h : Gets f (· = r)) : Ev f r := by
  obtain ⟨a, ha, rfl⟩ := h
  exact ha
theorem Ev.gets {α : Type} {f : Nat → Option α} {r : α} {Q : α → Prop} (h : Ev f r) (hq : Q r) : Gets f Q := ⟨r, h, hq⟩
theorem Gets.same {α : Type} {o : Option α} {Q : α → Prop} {r : α} (h : o = some r) (hq : Q r) : Gets (fun _ => o) Q := by
  subst h; exact Gets.ret hq
theorem wrapId {x : Int} (h0 : -9223372036854775808 ≤ x) (h1 : x ≤ 9223372036854775807) : wrap64 x = x := by
  unfold wrap64; omega
theorem i64_bd {n : Int} (h : (Lit.int .i64 n).wf = true) : -9223372036854775808 ≤ n ∧ n ≤ 9223372036854775807 := by
  have hm : IntKind.i64.min = -9223372036854775808 := rfl
  simp [Lit.wf, hm] at h
  exact h
theorem boolEq {a b : Bool} {P Q : Prop} (ha : a = true ↔ P) (hb : b = true ↔ Q) (h : P ↔ Q) : a = b := by
  rw [Bool.eq_iff_iff, ha, hb, h]
theorem tmod_nn {a b : Int} (h : 0 ≤ a) : Int.tmod a b = a % b := Int.tmod_eq_emod_of_nonneg h
theorem tdiv_nn {a b : Int} (h : 0 ≤ a) : Int.tdiv a b = a / b := Int.tdiv_eq_ediv_of_nonneg h

/-! ### rows of numbers -/
theorem rd_get {l : List Int} {i : Int} (h : i.toNat < l.length) : rd l i = l[i.toNat] := by
  unfold rd; rw [List.getD_eq_getElem?_getD, List.getElem?_eq_getElem h]; rfl
theorem fill_step {α : Type} (l : List α) (d : α) (i : Nat) (h : i < l.length) : (l.take i ++ List.replicate (l.length - i) d).set i l[i] = l.take (i + 1) ++ List.replicate (l.length - (i + 1)) d := by
  have e : List.replicate (l.length - i) d = d :: List.replicate (l.length - (i + 1)) d := by
    rw [show l.length - i = (l.length - (i + 1)) + 1 by omega]; rfl
  rw [e, List.set_append_right _ _ (by rw [List.length_take]; omega), List.length_take, show i - min i l.length = 0 by omega, List.set_cons_zero, List.take_succ_eq_append_getElem h, List.append_assoc]
  rfl
theorem drop_at {α : Type} (l : List α) (i : Nat) (h : i < l.length) : l.drop i = l[i] :: l.drop (i + 1) := List.drop_eq_getElem_cons h
def marks (k : Int) (n : Nat) : List Int := (List.range n).map (fun (i : Nat) => k + (i : Int))
theorem marks_length (k : Int) (n : Nat) : (marks k n).length = n := by simp [marks]
theorem marks_get (k : Int) (n i : Nat) (h : i < n) : (marks k n)[i]'(by rw [marks_length]; exact h) = k + i := by simp [marks]

/-! ### texts as lists of numbers -/
theorem bytesOf_inj {a b : ByteArray} (h : bytesOf a = bytesOf b) : a = b := by
  have hl : a.data.toList = b.data.toList := by
    unfold bytesOf at h
    exact List.map_inj_right (fun x y hxy => UInt8.toNat_inj.1 (by exact_mod_cast hxy)) |>.1 h
  have hd : a.data = b.data := Array.toList_inj.1 hl
  cases a; cases b; cases hd; rfl
theorem toList_iff (a b : ByteArray) : a.toList = b.toList ↔ a = b := by
  rw [Lib.toList_data, Lib.toList_data]
  exact ⟨fun h => bytesOf_inj (by unfold bytesOf; rw [h]), fun h => by rw [h]⟩
theorem bytesOf_range {s : ByteArray} {x : Int} (h : x ∈ bytesOf s) : 0 ≤ x ∧ x < 256 := by
  unfold bytesOf at h
  obtain ⟨b, _, rfl⟩ := List.mem_map.1 h
  have := b.toNat_lt
  omega
theorem bytesOf_str {xs : List Int} (h : ∀ x ∈ xs, 0 ≤ x ∧ x < 256) : bytesOf (strOfNums xs) = xs := by
  unfold bytesOf
  rw [strOfNums_data, List.map_map]
  conv => rhs; rw [← List.map_id xs]
  refine List.map_congr_left (fun x hx => ?_)
  have := h x hx
  simp only [Function.comp, UInt8.toNat_ofNat', id]
  omega
theorem str_bytesOf (s : ByteArray) : strOfNums (bytesOf s) = s := bytesOf_inj (bytesOf_str (fun _ => bytesOf_range))
theorem bytesOf_extract (s : ByteArray) (a b : Nat) : bytesOf (s.extract a b) = ((bytesOf s).drop a).take (b - a) := by
  unfold bytesOf
  rw [Lib.extract_data, List.map_take, List.map_drop]
theorem bytesOf_app (a b : ByteArray) : bytesOf (a ++ b) = bytesOf a ++ bytesOf b := by
  unfold bytesOf
  rw [← List.map_append]
  congr 1
  first | done | simp
theorem bt_getD (s : ByteArray) (i : Int) : bt s i = (bytesOf s).getD i.toNat 0 := (rd_bytesOf s i).symm
theorem bytesOf_empty : bytesOf (⟨#[]⟩ : ByteArray) = [] := rfl
theorem size_eq (s : ByteArray) : s.size = (bytesOf s).length := (bytesOf_length s).symm
theorem size_app (a b : ByteArray) : (a ++ b).size = a.size + b.size := by simp

theorem rdS_get {l : List ByteArray} {i : Int} (h : i.toNat < l.length) : rdOf ByteArray.empty l i = l[i.toNat] := by
  unfold rdOf; rw [List.getD_eq_getElem?_getD, List.getElem?_eq_getElem h]; rfl
def shortL (l : List ByteArray) : Bool := l.all (fun s => decide ((s.size : Int) ≤ 60))
theorem shortL_iff (l : List ByteArray) : shortL l = true ↔ ∀ s ∈ l, s.size ≤ 60 := by
  unfold shortL
  rw [List.all_eq_true]
  exact ⟨fun h s hs => by have := of_decide_eq_true (h s hs); omega, fun h s hs => decide_eq_true (by have := h s hs; omega)⟩
theorem shortL_cons (s : ByteArray) (l : List ByteArray) : shortL (s :: l) = (decide ((s.size : Int) ≤ 60) && shortL l) := rfl

/-! ### texts in their order -/
theorem tx_irrefl (a : List UInt8) : ¬ a < a := List.lt_irrefl a
theorem tx_trans {a b c : List UInt8} (h : a < b) (k : b < c) : a < c := List.lt_trans h k
theorem tx_le {a b : List UInt8} : a ≤ b ↔ ¬ b < a := Iff.rfl
theorem tx_tri : ∀ a b : List UInt8, a < b ∨ a = b ∨ b < a
  | [], [] => .inr (.inl rfl)
  | [], _ :: _ => .inl (by simp)
  | _ :: _, [] => .inr (.inr (by simp))
  | x :: a, y :: b => by
    rcases UInt8.lt_or_lt_of_ne (a := x) (b := y) |> fun f => (Classical.em (x = y)) with h | h
    · subst h
      rcases tx_tri a b with k | k | k
      · exact .inl (List.cons_lt_cons_iff.2 (.inr ⟨rfl, k⟩))
      · exact .inr (.inl (by rw [k]))
      · exact .inr (.inr (List.cons_lt_cons_iff.2 (.inr ⟨rfl, k⟩)))
    · rcases UInt8.lt_or_lt_of_ne h with k | k
      · exact .inl (List.cons_lt_cons_iff.2 (.inl k))
      · exact .inr (.inr (List.cons_lt_cons_iff.2 (.inl k)))
theorem tx_asymm {a b : List UInt8} (h : a < b) : ¬ b < a := fun k => tx_irrefl a (tx_trans h k)
theorem tx_of_le {a b : List UInt8} (h : a ≤ b) (hn : a ≠ b) : a < b := by
  rcases tx_tri a b with k | k | k
  · exact k
  · exact absurd k hn
  · exact absurd k h
theorem tx_le_trans {a b c : List UInt8} (h : a ≤ b) (k : b ≤ c) : a ≤ c := by
  intro hc
  rcases tx_tri a b with h1 | h1 | h1
  · exact k (tx_trans hc h1)
  · subst h1; exact k hc
  · exact h h1
theorem bl_iff : ∀ a b : List UInt8, Op.bytesLess a b = true ↔ a < b
  | [], [] => by simp [Op.bytesLess]
  | [], _ :: _ => by simp [Op.bytesLess]
  | _ :: _, [] => by simp [Op.bytesLess]
  | x :: a, y :: b => by
    have ih := bl_iff a b
    have hx : x < y ↔ x.toNat < y.toNat := UInt8.lt_iff_toNat_lt
    simp only [Op.bytesLess, List.cons_lt_cons_iff, Bool.or_eq_true, Bool.and_eq_true, decide_eq_true_eq, beq_iff_eq, ih]
theorem ascT_ext : ∀ a b : List (List UInt8), a.Pairwise (· < ·) → b.Pairwise (· < ·) → (∀ x, x ∈ a ↔ x ∈ b) → a = b := by
  intro a
  induction a with
  | nil =>
    intro b _ _ h
    cases b with
    | nil => rfl
    | cons y b => exact absurd ((h y).2 (List.mem_cons_self ..)) (by simp)
  | cons x a ih =>
    intro b ha hb h
    cases b with
    | nil => exact absurd ((h x).1 (List.mem_cons_self ..)) (by simp)
    | cons y b =>
      rw [List.pairwise_cons] at ha hb
      have e : x = y := by
        rcases List.mem_cons.1 ((h x).1 (List.mem_cons_self ..)) with h1 | h1
        · exact h1
        · rcases List.mem_cons.1 ((h y).2 (List.mem_cons_self ..)) with h2 | h2
          · exact h2.symm
          · exact absurd (hb.1 x h1) (tx_asymm (ha.1 y h2))
      subst e
      rw [ih b ha.2 hb.2 (fun z => ⟨fun hz => ?_, fun hz => ?_⟩)]
      · rcases List.mem_cons.1 ((h z).1 (List.mem_cons_of_mem _ hz)) with h1 | h1
        · exact absurd (h1 ▸ ha.1 z hz) (tx_irrefl _)
        · exact h1
      · rcases List.mem_cons.1 ((h z).2 (List.mem_cons_of_mem _ hz)) with h1 | h1
        · exact absurd (h1 ▸ hb.1 z hz) (tx_irrefl _)
        · exact h1
theorem compactT (z : List (List UInt8)) (hz : z.Pairwise (· ≤ ·)) : ∀ m, m ≤ z.length → (Lib.compactUpTo z.toArray m).Pairwise (· < ·) ∧ ∀ x, x ∈ Lib.compactUpTo z.toArray m ↔ x ∈ z.take m := by
  intro m
  induction m with
  | zero => intro _; simp [Lib.compactUpTo]
  | succ m ih =>
    intro hm
    obtain ⟨h1, h2⟩ := ih (by omega)
    have hg : ∀ j, (hj : j < z.length) → z.toArray[j]! = z[j] := by
      intro j hj
      rw [getElem!_pos _ j (by simpa using hj)]; simp
    rw [Lib.compactUpTo_succ, List.take_succ_eq_append_getElem (by omega)]
    rcases Nat.eq_zero_or_pos m with h0 | h0
    · subst h0
      rw [Lib.keeps_lt_one _ 0 (by omega), hg 0 (by omega)]
      simp [Lib.compactUpTo]
    · have hlast : z[m - 1] ∈ z.take m := by
        rw [List.mem_take_iff_getElem]
        exact ⟨m - 1, by omega, rfl⟩
      have hle : ∀ x ∈ z.take m, x ≤ z[m - 1] := by
        intro x hx
        rw [List.mem_take_iff_getElem] at hx
        obtain ⟨j, hj, rfl⟩ := hx
        rcases Nat.lt_or_ge j (m - 1) with hlt | hge
        · exact List.pairwise_iff_getElem.1 hz j (m - 1) _ _ hlt
        · have : j = m - 1 := by omega
          subst this; exact tx_irrefl _
      have hadj : z[m - 1] ≤ z[m] := List.pairwise_iff_getElem.1 hz (m - 1) m _ _ (by omega)
      by_cases hk : z[m] = z[m - 1]
      · rw [Lib.keeps_neg h0 (by rw [hg m (by omega), hg (m - 1) (by omega), hk])]
        simp only [Bool.false_eq_true, if_false, List.append_nil]
        refine ⟨h1, fun x => ?_⟩
        rw [h2, List.mem_append, List.mem_singleton]
        refine ⟨.inl, fun h => h.elim id (fun h => ?_)⟩
        rw [h, hk]
        exact hlast
      · rw [Lib.keeps_pos (by rw [hg m (by omega), hg (m - 1) (by omega)]; exact hk), hg m (by omega)]
        simp only [if_true]
        refine ⟨?_, fun x => ?_⟩
        · rw [List.pairwise_append]
          refine ⟨h1, List.pairwise_singleton _ _, fun a ha b hb => ?_⟩
          have e := List.mem_singleton.1 hb
          subst e
          have h5 := hle a ((h2 a).1 ha)
          have h6 : z[m - 1] < z[m] := tx_of_le hadj (fun h => hk h.symm)
          rcases tx_tri a z[m - 1] with h7 | h7 | h7
          · exact tx_trans h7 h6
          · exact h7 ▸ h6
          · exact absurd h7 h5
        · rw [List.mem_append, List.mem_append, h2, List.mem_singleton]
/-- What a text is in the order's eyes. -/
def tx (s : ByteArray) : List UInt8 := s.data.toList
def ofTx (l : List UInt8) : ByteArray := ⟨l.toArray⟩
theorem tx_of (l : List UInt8) : tx (ofTx l) = l := by simp [tx, ofTx]
theorem of_tx (s : ByteArray) : ofTx (tx s) = s := by simp [tx, ofTx]
theorem tx_toList (s : ByteArray) : s.toList = tx s := Lib.toList_data s
theorem map_tx_inj {a b : List ByteArray} (h : a.map tx = b.map tx) : a = b := by
  have := congrArg (List.map ofTx) h
  simpa [List.map_map, Function.comp_def, of_tx] using this
theorem sortedT (l : List (List UInt8)) : (l.mergeSort fun x y => decide (x ≤ y)).Pairwise (· ≤ ·) := by
  have h := List.pairwise_mergeSort (le := fun x y : List UInt8 => decide (x ≤ y)) (fun a b c h1 h2 => decide_eq_true (tx_le_trans (of_decide_eq_true h1) (of_decide_eq_true h2)))
    (fun a b => by
      rcases tx_tri a b with k | k | k
      · have h1 : a ≤ b := tx_asymm k
        simp only [decide_eq_true h1, Bool.true_or]
      · subst k
        have h1 : a ≤ a := tx_irrefl a
        simp only [decide_eq_true h1, Bool.true_or]
      · have h1 : b ≤ a := tx_asymm k
        simp only [decide_eq_true h1, Bool.or_true]) l
  exact h.imp (fun h => of_decide_eq_true h)
/-- The names of a list, ascending, each once. -/
def namesOf (l r : List ByteArray) : Prop := (r.map tx).Pairwise (· < ·) ∧ ∀ x, x ∈ r ↔ x ∈ l
theorem mem_tx {l : List ByteArray} {t : List UInt8} : t ∈ l.map tx ↔ ofTx t ∈ l := by
  rw [List.mem_map]
  exact ⟨fun ⟨a, h, e⟩ => by rw [← e, of_tx]; exact h, fun h => ⟨_, h, tx_of t⟩⟩
theorem namesOf_one {l a b : List ByteArray} (ha : namesOf l a) (hb : namesOf l b) : a = b := by
  refine map_tx_inj (ascT_ext _ _ ha.1 hb.1 (fun t => ?_))
  rw [mem_tx, mem_tx, ha.2, hb.2]
theorem names_sorted (l : List ByteArray) : namesOf l ((Lib.compact ((l.map fun x => x.data.toList).mergeSort fun x y => decide (x ≤ y))).map fun x => (⟨x.toArray⟩ : ByteArray)) := by
  have h := compactT _ (sortedT (l.map fun x => x.data.toList)) _ (Nat.le_refl _)
  have e : ((Lib.compact ((l.map fun x => x.data.toList).mergeSort fun x y => decide (x ≤ y))).map fun x => (⟨x.toArray⟩ : ByteArray)).map tx = Lib.compact ((l.map fun x => x.data.toList).mergeSort fun x y => decide (x ≤ y)) := by
    rw [List.map_map]
    conv => rhs; rw [← List.map_id (Lib.compact _)]
    exact List.map_congr_left (fun x _ => tx_of x)
  refine ⟨by rw [e]; exact h.1, fun x => ?_⟩
  have h3 : tx x ∈ (Lib.compact ((l.map fun x => x.data.toList).mergeSort fun x y => decide (x ≤ y))) ↔ tx x ∈ l.map tx := by
    have := h.2 (tx x)
    rw [List.take_length, List.mem_mergeSort] at this
    exact this
  rw [← e, mem_tx, mem_tx, of_tx] at h3
  exact h3
theorem names_len {l : List (List UInt8)} : (Lib.compact l).length ≤ l.length := Lib.compact_length_le l

theorem implSort (l : List ByteArray) (hl : l.length ≤ 1048576) : ∃ r, impl_SortNames.f l = some r ∧ namesOf l r ∧ r.length ≤ l.length := by
  refine ⟨_, ?_, names_sorted l, ?_⟩
  · unfold impl_SortNames.f slices_Clone_string_string.f slices_Sort_string_string.f slices_Compact_string_string.f slices_Clip_string_string.f
    simp only [Option.bind_some, List.length_nil, List.nil_append]
    rw [if_pos (by omega)]
    simp only [Option.bind_some]
    rw [if_pos (by omega)]
    simp only [Option.bind_some]
    congr 2
    have e : ∀ M : List (List UInt8), (M.map fun x => (⟨x.toArray⟩ : ByteArray)).map (fun x => x.data.toList) = M := by
      intro M
      rw [List.map_map]
      conv => rhs; rw [← List.map_id M]
      exact List.map_congr_left (fun x _ => tx_of x)
    rw [e]
  · rw [List.length_map]
    refine Nat.le_trans (Lib.compact_length_le _) ?_
    rw [List.length_mergeSort, List.length_map]
    exact Nat.le_refl _

theorem bl_tx (a b : ByteArray) : Op.bytesLess a.toList b.toList = true ↔ tx a < tx b := by rw [tx_toList, tx_toList]; exact bl_iff _ _
/-- Those below x; those above it. -/
def blw (x : ByteArray) (l : List ByteArray) : List ByteArray := l.filter fun y => Op.bytesLess y.toList x.toList
def abv (x : ByteArray) (l : List ByteArray) : List ByteArray := l.filter fun y => Op.bytesLess x.toList y.toList
theorem blw_snoc (x : ByteArray) (l : List ByteArray) (i : Nat) (h : i < l.length) : blw x (l.take (i + 1)) = blw x (l.take i) ++ if Op.bytesLess l[i].toList x.toList = true then [l[i]] else [] := by
  unfold blw
  rw [List.take_succ_eq_append_getElem h, List.filter_append]
  congr 1
  by_cases hb : Op.bytesLess l[i].toList x.toList = true <;> simp [hb]
theorem abv_snoc (x : ByteArray) (l : List ByteArray) (i : Nat) (h : i < l.length) : abv x (l.take (i + 1)) = abv x (l.take i) ++ if Op.bytesLess x.toList l[i].toList = true then [l[i]] else [] := by
  unfold abv
  rw [List.take_succ_eq_append_getElem h, List.filter_append]
  congr 1
  by_cases hb : Op.bytesLess x.toList l[i].toList = true <;> simp [hb]
theorem blw_len (x : ByteArray) (l : List ByteArray) : (blw x l).length ≤ l.length := List.length_filter_le _ _
theorem abv_len (x : ByteArray) (l : List ByteArray) : (abv x l).length ≤ l.length := List.length_filter_le _ _
theorem ins_asc (l : List ByteArray) (x : ByteArray) (h : (l.map tx).Pairwise (· < ·)) : ((blw x l ++ [x] ++ abv x l).map tx).Pairwise (· < ·) := by
  have hs : ∀ (p : ByteArray → Bool), ((l.filter p).map tx).Pairwise (· < ·) := fun p => List.Pairwise.sublist (List.Sublist.map tx List.filter_sublist) h
  have h1 : ∀ t ∈ (blw x l).map tx, t < tx x := by
    intro t ht
    obtain ⟨y, hy, rfl⟩ := List.mem_map.1 ht
    exact (bl_tx y x).1 (List.mem_filter.1 hy).2
  have h2 : ∀ t ∈ (abv x l).map tx, tx x < t := by
    intro t ht
    obtain ⟨y, hy, rfl⟩ := List.mem_map.1 ht
    exact (bl_tx x y).1 (List.mem_filter.1 hy).2
  rw [List.map_append, List.map_append, List.pairwise_append, List.pairwise_append]
  refine ⟨⟨hs _, List.pairwise_singleton _ _, fun a ha b hb => ?_⟩, hs _, fun a ha b hb => ?_⟩
  · rw [List.map_singleton, List.mem_singleton] at hb
    exact hb ▸ h1 a ha
  · rcases List.mem_append.1 ha with ha | ha
    · exact tx_trans (h1 a ha) (h2 b hb)
    · rw [List.map_singleton, List.mem_singleton] at ha
      exact ha ▸ h2 b hb
theorem ins_mem (l : List ByteArray) (x y : ByteArray) : y ∈ blw x l ++ [x] ++ abv x l ↔ y = x ∨ y ∈ l := by
  unfold blw abv
  rw [List.mem_append, List.mem_append, List.mem_singleton, List.mem_filter, List.mem_filter, bl_tx, bl_tx]
  constructor
  · rintro ((h | h) | h)
    · exact .inr h.1
    · exact .inl h
    · exact .inr h.1
  · rintro (h | h)
    · exact .inl (.inr h)
    · rcases tx_tri (tx y) (tx x) with k | k | k
      · exact .inl (.inl ⟨h, k⟩)
      · exact .inl (.inr (by rw [← of_tx y, k, of_tx]))
      · exact .inr ⟨h, k⟩
theorem ins_len (l : List ByteArray) (x : ByteArray) (h : (l.map tx).Pairwise (· < ·)) : (blw x l ++ [x] ++ abv x l).length ≤ l.length + 1 := by
  have hd : ∀ m : List ByteArray, (blw x m).length + (abv x m).length ≤ m.length := by
    intro m
    induction m with
    | nil => simp [blw, abv]
    | cons y m ih =>
      unfold blw abv at ih ⊢
      rw [List.filter_cons, List.filter_cons]
      by_cases h1 : Op.bytesLess y.toList x.toList = true
      · have h2 : ¬ Op.bytesLess x.toList y.toList = true := fun h2 => tx_asymm ((bl_tx _ _).1 h1) ((bl_tx _ _).1 h2)
        rw [if_pos h1, if_neg h2, List.length_cons, List.length_cons]
        omega
      · rw [if_neg h1]
        split <;> simp only [List.length_cons] <;> omega
  have := hd l
  simp only [List.length_append, List.length_singleton]
  omega
/-! ### the reader of draws: it always answers -/
theorem and_i64 (x : Int) (m : Nat) (hm : m < 9223372036854775808) : 0 ≤ Go.bits .and .i64 x (m : Int) ∧ Go.bits .and .i64 x (m : Int) ≤ (m : Int) := by
  have h1 : (BitVec.ofInt IntKind.i64.bits x &&& BitVec.ofInt IntKind.i64.bits (m : Int)).toNat ≤ m := by
    rw [BitVec.toNat_and]
    refine Nat.le_trans Nat.and_le_right ?_
    rw [BitVec.ofInt_natCast, BitVec.toNat_ofNat]
    exact Nat.mod_le _ _
  unfold Go.bits
  simp only [IntKind.wrap_i64]
  omega
theorem and255 (x : Int) : 0 ≤ Go.bits .and .i64 x 255 ∧ Go.bits .and .i64 x 255 < 256 := by
  have h := and_i64 x 255 (by decide)
  rw [show ((255 : Nat) : Int) = 255 from rfl] at h
  omega
theorem wrap_bd (x : Int) : -9223372036854775808 ≤ wrap64 x ∧ wrap64 x ≤ 9223372036854775807 := by unfold wrap64; omega
theorem dByte (l : List Int) (p z : Int) (hl : l.length ≤ 1048576) (hp : 0 ≤ p ∧ p ≤ l.length) : ∃ v p' z', spec_l01Byte.f l p z = some (v, p', z') ∧ (0 ≤ v ∧ v < 256) ∧ 0 ≤ p' ∧ p' ≤ l.length := by
  unfold spec_l01Byte.f
  by_cases h : p < (l.length : Int)
  · rw [if_pos h, if_pos hp.1]
    refine ⟨_, _, _, rfl, and255 _, ?_⟩
    rw [wrapId (by omega) (by omega)]; omega
  · rw [if_neg h]
    exact ⟨_, _, _, rfl, and255 _, hp⟩
theorem dBelow (l : List Int) (p z n : Int) (hl : l.length ≤ 1048576) (hp : 0 ≤ p ∧ p ≤ l.length) (hn : 0 < n) : ∃ v p' z', spec_l01Below.f l p z n = some (v, p', z') ∧ (0 ≤ v ∧ v < n) ∧ 0 ≤ p' ∧ p' ≤ l.length := by
  unfold spec_l01Below.f
  rw [if_neg (by omega)]
  by_cases h : n ≤ 256
  · rw [if_pos h]
    obtain ⟨v, p1, z1, e1, hv, hp1⟩ := dByte l p z hl hp
    rw [e1]
    simp only [Option.bind_some]
    rw [if_neg (by omega)]
    refine ⟨_, _, _, rfl, ?_, hp1⟩
    rw [tmod_nn hv.1]
    exact ⟨Int.emod_nonneg _ (by omega), Int.emod_lt_of_pos _ hn⟩
  · rw [if_neg h]
    obtain ⟨v1, p1, z1, e1, hv1, hp1⟩ := dByte l p z hl hp
    rw [e1]
    simp only [Option.bind_some]
    obtain ⟨v2, p2, z2, e2, hv2, hp2⟩ := dByte l p1 z1 hl hp1
    rw [e2]
    simp only [Option.bind_some]
    obtain ⟨v3, p3, z3, e3, hv3, hp3⟩ := dByte l p2 z2 hl hp2
    rw [e3]
    simp only [Option.bind_some]
    obtain ⟨v4, p4, z4, e4, hv4, hp4⟩ := dByte l p3 z3 hl hp3
    rw [e4]
    simp only [Option.bind_some]
    rw [if_neg (by omega)]
    refine ⟨_, _, _, rfl, ?_, hp4⟩
    rw [wrapId (x := v1 * 16777216) (by omega) (by omega), wrapId (x := v2 * 65536) (by omega) (by omega), wrapId (x := v1 * 16777216 + v2 * 65536) (by omega) (by omega), wrapId (x := v3 * 256) (by omega) (by omega), wrapId (x := v1 * 16777216 + v2 * 65536 + v3 * 256) (by omega) (by omega), wrapId (by omega) (by omega), tmod_nn (by omega)]
    exact ⟨Int.emod_nonneg _ (by omega), Int.emod_lt_of_pos _ hn⟩
theorem dNew_l0 (l : List Int) (hl : l.length ≤ 1048576) (d : Nat) : ∀ (i : Nat) (h : Int), l.length - i = d → i ≤ l.length → Gets (fun k => spec_l01New.l0 k l h (i : Int)) (fun r => r.1 = l ∧ r.2.1 = 0) := by
  induction d with
  | zero =>
    intro i h hd hi
    exact Gets.step (fun k => spec_l01New.l0.eq_2 ..) (Gets.neg (by omega) (Gets.ret ⟨rfl, rfl⟩))
  | succ d ih =>
    intro i h hd hi
    refine Gets.step (fun k => spec_l01New.l0.eq_2 ..) (Gets.pos (by omega) (Gets.ite (fun _ => Gets.pos (by omega) ?_) (fun _ => Gets.ret ⟨rfl, rfl⟩)))
    rw [wrapId (x := (i : Int) + 1) (by omega) (by omega), show ((i : Int) + 1) = ((i + 1 : Nat) : Int) by omega]
    exact ih (i + 1) _ (by omega) (by omega)
theorem dNew (l : List Int) (hl : l.length ≤ 1048576) : Gets (fun k => spec_l01New.f k l) (fun r => r.1 = l ∧ r.2.1 = 0) := by
  unfold spec_l01New.f
  exact dNew_l0 l hl _ 0 _ rfl (by omega)

theorem dOnce (l : List Int) (p z n : Int) (hl : l.length ≤ 1048576) (hp : 0 ≤ p ∧ p ≤ l.length) (hn : 0 < n) : ∃ v p' z', spec_l01Once.f l p z n = some (v, p', z') ∧ 0 ≤ p' ∧ p' ≤ l.length := by
  unfold spec_l01Once.f
  obtain ⟨v, p', z', e, _, hp'⟩ := dBelow l p z n hl hp hn
  rw [e]
  exact ⟨_, _, _, rfl, hp'⟩

theorem dPickS (l : List Int) (p z : Int) (m : List ByteArray) (n : Nat) (hl : l.length ≤ 1048576) (hp : 0 ≤ p ∧ p ≤ l.length) (hm : 0 < m.length) (hs : ∀ t ∈ m, t.size ≤ n) : ∃ v p' z', spec_l01Pick.f l p z m = some (v, p', z') ∧ v.size ≤ n ∧ 0 ≤ p' ∧ p' ≤ l.length := by
  unfold spec_l01Pick.f
  obtain ⟨v, p', z', e, hv, hp'⟩ := dBelow l p z (m.length : Int) hl hp (by omega)
  rw [e]
  simp only [Option.bind_some]
  rw [if_pos hv.1, if_pos hv.2]
  refine ⟨_, _, _, rfl, ?_, hp'⟩
  have e2 : rdOf ByteArray.empty m v = m[v.toNat]'(by omega) := rdS_get (by omega)
  rw [e2]
  exact hs _ (List.getElem_mem _)

theorem dLong_l0 (n : Nat) (c : Int) (d : Nat) : ∀ (i : Nat) (acc : List Int), n - i = d → i ≤ n → acc.length = n → n ≤ 1000000 → Gets (fun k => spec_l01Long.l0 k (n : Int) c acc (i : Int)) (fun r => r.size = n) := by
  induction d with
  | zero =>
    intro i acc hd hi ha hn
    exact Gets.step (fun k => spec_l01Long.l0.eq_2 ..) (Gets.neg (by omega) (Gets.ret (by rw [strOfNums_size]; exact ha)))
  | succ d ih =>
    intro i acc hd hi ha hn
    refine Gets.step (fun k => spec_l01Long.l0.eq_2 ..) (Gets.pos (by omega) (Gets.pos (by omega) (Gets.pos (by omega) ?_)))
    rw [wrapId (x := (i : Int) + 1) (by omega) (by omega), show ((i : Int) + 1) = ((i + 1 : Nat) : Int) by omega]
    exact ih (i + 1) _ (by omega) (by omega) (by simpa using ha) hn
theorem dLong (n : Nat) (c : Int) (hn : n ≤ 1000000) : Gets (fun k => spec_l01Long.f k (n : Int) c) (fun r => r.size = n) := by
  unfold spec_l01Long.f
  refine Gets.pos (by omega) (Gets.pos (by omega) ?_)
  exact dLong_l0 n c _ 0 _ rfl (by omega) (by simp) hn

theorem sameTexts_l0 (a b : List ByteArray) (ha : a.length ≤ 35184372088832) (hab : a.length = b.length) (d : Nat) : ∀ i : Nat, a.length - i = d → i ≤ a.length → Gets (fun k => laws_sameTexts.l0 k a b (i : Int)) (fun r => r = true ↔ a.drop i = b.drop i) := by
  induction d with
  | zero =>
    intro i hd hi
    refine Gets.step (fun k => laws_sameTexts.l0.eq_2 ..) (Gets.neg (by omega) (Gets.ret ?_))
    rw [List.drop_of_length_le (by omega), List.drop_of_length_le (by omega)]
    simp
  | succ d ih =>
    intro i hd hi
    refine Gets.step (fun k => laws_sameTexts.l0.eq_2 ..) (Gets.pos (by omega) (Gets.pos (by omega) (Gets.pos (by omega) ?_)))
    have e1 : rdOf ByteArray.empty a (i : Int) = a[i] := rdS_get (by omega)
    have e2 : rdOf ByteArray.empty b (i : Int) = b[i] := rdS_get (by omega)
    simp only [e1, e2]
    rw [wrapId (by omega) (by omega), drop_at a i (by omega), drop_at b i (by omega)]
    refine Gets.ite (fun h => ?_) (fun h => Gets.ret ?_)
    · rw [show ((i : Int) + 1) = ((i + 1 : Nat) : Int) by omega]
      refine (ih (i + 1) (by omega) (by omega)).mono (fun r hr => ?_)
      rw [hr]
      simp only [List.cons.injEq, (toList_iff _ _).1 h, true_and]
    · have hne : ¬ a[i] = b[i] := fun e => h (by rw [e])
      simp only [List.cons.injEq, hne, false_and, Bool.false_eq_true]
theorem sameTexts_true (a : List ByteArray) (ha : a.length ≤ 35184372088832) : Gets (fun k => laws_sameTexts.f k a a) (· = true) := by
  unfold laws_sameTexts.f
  exact Gets.pos rfl ((sameTexts_l0 a a ha rfl a.length 0 (by omega) (by omega)).mono (fun r hr => hr.2 rfl))

theorem dAny3 (l : List Int) (p z : Int) (hl : l.length ≤ 1048576) (hp : 0 ≤ p ∧ p ≤ l.length) : Gets (fun k => spec_l03Any.f k l p z) (fun r => 0 ≤ r.2.1 ∧ r.2.1 ≤ l.length) := by
  unfold spec_l03Any.f
  obtain ⟨b, p1, z1, e1, hp1⟩ := dOnce l p z 8 hl hp (by omega)
  simp only [e1, Option.bind_some]
  refine Gets.ite (fun _ => ?_) (fun _ => ?_)
  · refine Gets.bind (dLong 12 97 (by omega)) (fun s hs => Gets.bind (dLong 13 97 (by omega)) (fun t ht => ?_))
    obtain ⟨v, p2, z2, e2, _, hp2⟩ := dPickS l p1 z1 [(⟨#[]⟩ : ByteArray), (⟨#[52, 100]⟩ : ByteArray), (⟨#[65]⟩ : ByteArray), (⟨#[97, 32, 98]⟩ : ByteArray), (⟨#[35, 49, 35, 120]⟩ : ByteArray), s, t] (s.size + t.size + 9) hl hp1 (by simp)
      (by
        intro u hu
        simp only [List.mem_cons, List.not_mem_nil, or_false] at hu
        rcases hu with rfl | rfl | rfl | rfl | rfl | rfl | rfl
        · exact Nat.zero_le _
        · exact Nat.le_trans (show (⟨#[52, 100]⟩ : ByteArray).size ≤ 9 by decide) (by omega)
        · exact Nat.le_trans (show (⟨#[65]⟩ : ByteArray).size ≤ 9 by decide) (by omega)
        · exact Nat.le_trans (show (⟨#[97, 32, 98]⟩ : ByteArray).size ≤ 9 by decide) (by omega)
        · exact Nat.le_trans (show (⟨#[35, 49, 35, 120]⟩ : ByteArray).size ≤ 9 by decide) (by omega)
        · omega
        · omega)
    simp only [e2, Option.bind_some]
    exact Gets.ret hp2
  · unfold spec_l03Name.f
    obtain ⟨v, p2, z2, e2, _, hp2⟩ := dPickS l p1 z1 [(⟨#[97, 110, 110]⟩ : ByteArray), (⟨#[98, 111, 98]⟩ : ByteArray), (⟨#[99, 121]⟩ : ByteArray), (⟨#[100, 52]⟩ : ByteArray), (⟨#[101, 118, 101]⟩ : ByteArray)] 9 hl hp1 (by simp)
      (by
        intro u hu
        simp only [List.mem_cons, List.not_mem_nil, or_false] at hu
        rcases hu with rfl | rfl | rfl | rfl | rfl <;> decide)
    simp only [e2, Option.bind_some]
    exact Gets.ret hp2
theorem dSortNames_l0 (l : List Int) (hl : l.length ≤ 1048576) (d : Nat) : ∀ (i : Nat) (a : List ByteArray) (p z : Int), 8 - i = d → i ≤ 8 → a.length = i → (0 ≤ p ∧ p ≤ l.length) → Gets (fun k => spec_DrawSortNames.l0 k a (i : Int) l p z) (fun r => r.length ≤ 8) := by
  induction d with
  | zero =>
    intro i a p z hd hi ha hp
    obtain ⟨v, p1, z1, e1, hv, hp1⟩ := dBelow l p z 8 hl hp (by omega)
    refine Gets.step (fun k => spec_DrawSortNames.l0.eq_2 ..) ?_
    simp only [e1, Option.bind_some]
    exact Gets.neg (by omega) (Gets.ret (by omega))
  | succ d ih =>
    intro i a p z hd hi ha hp
    obtain ⟨v, p1, z1, e1, hv, hp1⟩ := dBelow l p z 8 hl hp (by omega)
    refine Gets.step (fun k => spec_DrawSortNames.l0.eq_2 ..) ?_
    simp only [e1, Option.bind_some]
    refine Gets.ite (fun _ => Gets.bind (dAny3 l p1 z1 hl hp1) (fun r hr => Gets.pos (by omega) ?_)) (fun _ => Gets.ret (by omega))
    have e2 : wrap64 ((i : Int) + 1) = ((i + 1 : Nat) : Int) := by rw [wrapId (by omega) (by omega)]; omega
    rw [e2]
    exact ih (i + 1) _ _ _ (by omega) (by omega) (by simp [ha]) hr
theorem dSortNames (l : List Int) (hl : l.length ≤ 1048576) : Gets (fun k => spec_DrawSortNames.f k l) (fun r => r.length ≤ 8) := by
  unfold spec_DrawSortNames.f
  refine Gets.bind (dNew l hl) (fun c hc => ?_)
  obtain ⟨c1, c2, c3⟩ := c
  obtain ⟨h1, h2⟩ := hc
  simp only at h1 h2
  subst h1 h2
  exact dSortNames_l0 c1 hl 8 0 [] 0 c3 rfl (by omega) rfl (by omega)
theorem has_l0 (l : List ByteArray) (x : ByteArray) (hl : l.length ≤ 1048576) (hx : x ∈ l) (d : Nat) : ∀ i : Nat, l.length - i = d → i ≤ l.length → x ∈ l.drop i → Gets (fun k => laws_has.l0 k l x (i : Int)) (· = true) := by
  induction d with
  | zero =>
    intro i hd hi h
    rw [List.drop_of_length_le (by omega)] at h
    cases h
  | succ d ih =>
    intro i hd hi h
    refine Gets.step (fun k => laws_has.l0.eq_2 ..) (Gets.pos (by omega) (Gets.pos (by omega) ?_))
    have e1 : rdOf ByteArray.empty l (i : Int) = l[i] := rdS_get (by omega)
    have e2 : wrap64 ((i : Int) + 1) = ((i + 1 : Nat) : Int) := by rw [wrapId (by omega) (by omega)]; omega
    rw [e1, e2]
    refine Gets.ite (fun _ => Gets.ret rfl) (fun hn => ih (i + 1) (by omega) (by omega) ?_)
    rw [drop_at l i (by omega)] at h
    rcases List.mem_cons.1 h with h | h
    · exact absurd (by rw [h]) hn
    · exact h
theorem has_ok (l : List ByteArray) (x : ByteArray) (hl : l.length ≤ 1048576) (hx : x ∈ l) : Gets (fun k => laws_has.f k l x) (· = true) := by
  unfold laws_has.f
  exact has_l0 l x hl hx l.length 0 rfl (by omega) (by simpa using hx)
theorem bab : namesOf [(⟨#[98]⟩ : ByteArray), (⟨#[97]⟩ : ByteArray), (⟨#[98]⟩ : ByteArray)] [(⟨#[97]⟩ : ByteArray), (⟨#[98]⟩ : ByteArray)] := by
  refine ⟨?_, fun x => ?_⟩
  · simp only [List.map_cons, List.map_nil, List.pairwise_cons, List.mem_singleton, forall_eq, List.not_mem_nil, false_implies, implies_true, List.Pairwise.nil, and_true]
    exact (bl_iff _ _).1 (by decide)
  · simp only [List.mem_cons, List.not_mem_nil, or_false]
    constructor
    · rintro (h | h)
      · exact .inr (.inl h)
      · exact .inl h
    · rintro (h | h | h)
      · exact .inr h
      · exact .inl h
      · exact .inr h
theorem sorts_l2 (l o : List ByteArray) (hl : l.length ≤ 8) (ho : o.length ≤ 8) (h : namesOf l o) (d : Nat) : ∀ i : Nat, o.length - i = d → i ≤ o.length → Gets (fun k => laws_FnSorts.l2 k l o (i : Int)) (· = true) := by
  induction d with
  | zero =>
    intro i hd hi
    refine Gets.step (fun k => laws_FnSorts.l2.eq_2 ..) (Gets.neg (by omega) ?_)
    obtain ⟨g, hg, hg2, hg3⟩ := implSort o (by omega)
    simp only [hg, Option.bind_some]
    have e : g = o := namesOf_one hg2 ⟨h.1, fun _ => Iff.rfl⟩
    subst e
    refine Gets.bind (sameTexts_true g (by omega)) (fun t ht => Gets.pos ht ?_)
    obtain ⟨q, hq, hq2, _⟩ := implSort [(⟨#[98]⟩ : ByteArray), (⟨#[97]⟩ : ByteArray), (⟨#[98]⟩ : ByteArray)] (by simp)
    simp only [hq, Option.bind_some]
    rw [namesOf_one hq2 bab]
    exact Gets.ret rfl
  | succ d ih =>
    intro i hd hi
    refine Gets.step (fun k => laws_FnSorts.l2.eq_2 ..) (Gets.pos (by omega) (Gets.pos (by omega) ?_))
    have e1 : rdOf ByteArray.empty o (i : Int) = o[i] := rdS_get (by omega)
    have e2 : wrap64 ((i : Int) + 1) = ((i + 1 : Nat) : Int) := by rw [wrapId (by omega) (by omega)]; omega
    rw [e1, e2]
    exact Gets.bindE (has_ok l o[i] (by omega) ((h.2 _).1 (List.getElem_mem _))).ev (Gets.pos rfl (ih (i + 1) (by omega) (by omega)))
theorem sorts_l1 (l o : List ByteArray) (hl : l.length ≤ 8) (ho : o.length ≤ 8) (h : namesOf l o) (d : Nat) : ∀ i : Nat, l.length - i = d → i ≤ l.length → Gets (fun k => laws_FnSorts.l1 k l o (i : Int)) (· = true) := by
  induction d with
  | zero =>
    intro i hd hi
    exact Gets.step (fun k => laws_FnSorts.l1.eq_2 ..) (Gets.neg (by omega) (sorts_l2 l o hl ho h o.length 0 rfl (by omega)))
  | succ d ih =>
    intro i hd hi
    refine Gets.step (fun k => laws_FnSorts.l1.eq_2 ..) (Gets.pos (by omega) (Gets.pos (by omega) ?_))
    have e1 : rdOf ByteArray.empty l (i : Int) = l[i] := rdS_get (by omega)
    have e2 : wrap64 ((i : Int) + 1) = ((i + 1 : Nat) : Int) := by rw [wrapId (by omega) (by omega)]; omega
    rw [e1, e2]
    exact Gets.bindE (has_ok o l[i] (by omega) ((h.2 _).2 (List.getElem_mem _))).ev (Gets.pos rfl (ih (i + 1) (by omega) (by omega)))
theorem sorts_l0 (l o : List ByteArray) (hl : l.length ≤ 8) (ho : o.length ≤ 8) (h : namesOf l o) (d : Nat) : ∀ i : Nat, o.length - i = d → 1 ≤ i → Gets (fun k => laws_FnSorts.l0 k l o (i : Int)) (· = true) := by
  induction d with
  | zero =>
    intro i hd hi
    exact Gets.step (fun k => laws_FnSorts.l0.eq_2 ..) (Gets.neg (by omega) (sorts_l1 l o hl ho h l.length 0 rfl (by omega)))
  | succ d ih =>
    intro i hd hi
    have e3 : wrap64 ((i : Int) - 1) = ((i - 1 : Nat) : Int) := by rw [wrapId (by omega) (by omega)]; omega
    refine Gets.step (fun k => laws_FnSorts.l0.eq_2 ..) ?_
    rw [e3]
    refine Gets.pos (by omega) (Gets.pos (by omega) (Gets.pos (by omega) (Gets.pos (by omega) ?_)))
    have e1 : rdOf ByteArray.empty o (i : Int) = o[i] := rdS_get (by omega)
    have e4 : rdOf ByteArray.empty o ((i - 1 : Nat) : Int) = o[i - 1] := rdS_get (by omega)
    have e2 : wrap64 ((i : Int) + 1) = ((i + 1 : Nat) : Int) := by rw [wrapId (by omega) (by omega)]; omega
    rw [e1, e2, e4]
    refine Gets.pos ((bl_tx _ _).2 ?_) (ih (i + 1) (by omega) (by omega))
    have := List.pairwise_iff_getElem.1 h.1 (i - 1) i (by rw [List.length_map]; omega) (by rw [List.length_map]; omega) (by omega)
    simpa using this
theorem FnSorts : Stat.FnSorts := by
  intro l _
  refine Gets.rounds ?_
  unfold laws_FnSorts.f laws_big.f
  simp only [Option.bind_some]
  refine Gets.ite (fun _ => Gets.ret rfl) (fun h => ?_)
  have hl : l.length ≤ 1048576 := by
    rcases Nat.lt_or_ge 1048576 l.length with h1 | h1
    · exact absurd (decide_eq_true (by omega)) h
    · exact h1
  refine Gets.bind (dSortNames l hl) (fun n hn => ?_)
  obtain ⟨g, hg, hg2, hg3⟩ := implSort n (by omega)
  simp only [hg, Option.bind_some]
  exact sorts_l0 n g hn (by omega) hg2 _ 1 rfl (by omega)

end Go.Proofs.Ytfakkehopmihoaa.Pure
