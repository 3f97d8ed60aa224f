/- A drawn text that is cut at drawn places is joined again, in as many pieces as the reference says. -/
import Derived.Test.YtlnmiafahjddhadStatFnCuts
import Derived.Lib.Strings
set_option linter.unusedVariables false
set_option linter.unusedSimpArgs false
namespace Go.Proofs.Ytlnmiafahjddhad.Pure
open Go.RowKit Go.Proofs.Ytlnmiafahjddhad.PFnCuts Go.Proofs.YtlnmiafahjddhadW.PrintWords Go.Proofs.YtlnmiafahjddhadW.PrintLast

/-! ### plain words: from some number of rounds on -/
def Gets {α : Type} (f : Nat → Option α) (Q : α → Prop) : Prop := ∃ r, Ev f r ∧ Q r
theorem Gets.ret {α : Type} {Q : α → Prop} {r : α} (h : Q r) : Gets (fun _ => some r) Q := ⟨r, Ev.now r, h⟩
theorem Gets.none {α : Type} {Q : α → Prop} (h : False) : Gets (fun _ => (Option.none : Option α)) Q := h.elim
theorem Gets.step {α : Type} {g f : Nat → Option α} {Q : α → Prop} (h : ∀ k, g (k + 1) = f k) (k : Gets f Q) : Gets g Q := by
  obtain ⟨r, hr, hq⟩ := k
  exact ⟨r, Ev.step h hr, hq⟩
theorem Ev.ite {α : Type} {c : Prop} [Decidable c] {f g : Nat → Option α} {r : α} (h : c → Ev f r) (k : ¬ c → Ev g r) : Ev (fun n => if c then f n else g n) r := by
  by_cases hc : c
  · simp only [hc, if_true]; exact h hc
  · simp only [hc, if_false]; exact k hc
theorem Gets.ite {α : Type} {c : Prop} [Decidable c] {f g : Nat → Option α} {Q : α → Prop} (h : c → Gets f Q) (k : ¬ c → Gets g Q) : Gets (fun n => if c then f n else g n) Q := by
  by_cases hc : c
  · simp only [hc, if_true]; exact h hc
  · simp only [hc, if_false]; exact k hc
theorem Gets.pos {α : Type} {c : Prop} [Decidable c] {f g : Nat → Option α} {Q : α → Prop} (hc : c) (h : Gets f Q) : Gets (fun n => if c then f n else g n) Q := by
  simp only [hc, if_true]; exact h
theorem Gets.neg {α : Type} {c : Prop} [Decidable c] {f g : Nat → Option α} {Q : α → Prop} (hc : ¬ c) (h : Gets g Q) : Gets (fun n => if c then f n else g n) Q := by
  simp only [hc, if_false]; exact h
theorem Gets.bind {α β : Type} {g : Nat → Option α} {f : Nat → α → Option β} {P : α → Prop} {Q : β → Prop} (h : Gets g P) (k : ∀ a, P a → Gets (fun n => f n a) Q) : Gets (fun n => (g n).bind (f n)) Q := by
  obtain ⟨a, ha, hp⟩ := h
  obtain ⟨r, hr, hq⟩ := k a hp
  exact ⟨r, Ev.bind ha hr, hq⟩
theorem Gets.bindE {α β : Type} {g : Nat → Option α} {f : Nat → α → Option β} {a : α} {Q : β → Prop} (h : Ev g a) (k : Gets (fun n => f n a) Q) : Gets (fun n => (g n).bind (f n)) Q := by
  obtain ⟨r, hr, hq⟩ := k
  exact ⟨r, Ev.bind h hr, hq⟩
theorem Gets.mono {α : Type} {f : Nat → Option α} {P Q : α → Prop} (h : Gets f P) (k : ∀ a, P a → Q a) : Gets f Q := by
  obtain ⟨r, hr, hp⟩ := h
  exact ⟨r, hr, k r hp⟩
theorem Gets.rounds {α : Type} {f : Nat → Option α} {r : α} (h : Gets f (· = r)) : ∃ k, f k = some r := by
  obtain ⟨a, ha, rfl⟩ := h
  exact ha.rounds
theorem Gets.ev {α : Type} {f : Nat → Option α} {r : α} (h : Gets f (· = r)) : Ev f r := by
  obtain ⟨a, ha, rfl⟩ := h
  exact ha
theorem Ev.gets {α : Type} {f : Nat → Option α} {r : α} {Q : α → Prop} (h : Ev f r) (hq : Q r) : Gets f Q := ⟨r, h, hq⟩
theorem Gets.same {α : Type} {o : Option α} {Q : α → Prop} {r : α} (h : o = some r) (hq : Q r) : Gets (fun _ => o) Q := by
  subst h; exact Gets.ret hq
theorem wrapId {x : Int} (h0 : -9223372036854775808 ≤ x) (h1 : x ≤ 9223372036854775807) : wrap64 x = x := by
  unfold wrap64; omega
theorem i64_bd {n : Int} (h : (Lit.int .i64 n).wf = true) : -9223372036854775808 ≤ n ∧ n ≤ 9223372036854775807 := by
  have hm : IntKind.i64.min = -9223372036854775808 := rfl
  simp [Lit.wf, hm] at h
  exact h
theorem boolEq {a b : Bool} {P Q : Prop} (ha : a = true ↔ P) (hb : b = true ↔ Q) (h : P ↔ Q) : a = b := by
  rw [Bool.eq_iff_iff, ha, hb, h]
theorem tmod_nn {a b : Int} (h : 0 ≤ a) : Int.tmod a b = a % b := Int.tmod_eq_emod_of_nonneg h
theorem tdiv_nn {a b : Int} (h : 0 ≤ a) : Int.tdiv a b = a / b := Int.tdiv_eq_ediv_of_nonneg h

/-! ### rows of numbers -/
theorem rd_get {l : List Int} {i : Int} (h : i.toNat < l.length) : rd l i = l[i.toNat] := by
  unfold rd; rw [List.getD_eq_getElem?_getD, List.getElem?_eq_getElem h]; rfl
theorem fill_step {α : Type} (l : List α) (d : α) (i : Nat) (h : i < l.length) : (l.take i ++ List.replicate (l.length - i) d).set i l[i] = l.take (i + 1) ++ List.replicate (l.length - (i + 1)) d := by
  have e : List.replicate (l.length - i) d = d :: List.replicate (l.length - (i + 1)) d := by
    rw [show l.length - i = (l.length - (i + 1)) + 1 by omega]; rfl
  rw [e, List.set_append_right _ _ (by rw [List.length_take]; omega), List.length_take, show i - min i l.length = 0 by omega, List.set_cons_zero, List.take_succ_eq_append_getElem h, List.append_assoc]
  rfl
theorem drop_at {α : Type} (l : List α) (i : Nat) (h : i < l.length) : l.drop i = l[i] :: l.drop (i + 1) := List.drop_eq_getElem_cons h
def marks (k : Int) (n : Nat) : List Int := (List.range n).map (fun (i : Nat) => k + (i : Int))
theorem marks_length (k : Int) (n : Nat) : (marks k n).length = n := by simp [marks]
theorem marks_get (k : Int) (n i : Nat) (h : i < n) : (marks k n)[i]'(by rw [marks_length]; exact h) = k + i := by simp [marks]

/-! ### texts as lists of numbers -/
theorem bytesOf_inj {a b : ByteArray} (h : bytesOf a = bytesOf b) : a = b := by
  have hl : a.data.toList = b.data.toList := by
    unfold bytesOf at h
    exact List.map_inj_right (fun x y hxy => UInt8.toNat_inj.1 (by exact_mod_cast hxy)) |>.1 h
  have hd : a.data = b.data := Array.toList_inj.1 hl
  cases a; cases b; cases hd; rfl
theorem toList_iff (a b : ByteArray) : a.toList = b.toList ↔ a = b := by
  rw [Lib.toList_data, Lib.toList_data]
  exact ⟨fun h => bytesOf_inj (by unfold bytesOf; rw [h]), fun h => by rw [h]⟩
theorem bytesOf_range {s : ByteArray} {x : Int} (h : x ∈ bytesOf s) : 0 ≤ x ∧ x < 256 := by
  unfold bytesOf at h
  obtain ⟨b, _, rfl⟩ := List.mem_map.1 h
  have := b.toNat_lt
  omega
theorem bytesOf_str {xs : List Int} (h : ∀ x ∈ xs, 0 ≤ x ∧ x < 256) : bytesOf (strOfNums xs) = xs := by
  unfold bytesOf
  rw [strOfNums_data, List.map_map]
  conv => rhs; rw [← List.map_id xs]
  refine List.map_congr_left (fun x hx => ?_)
  have := h x hx
  simp only [Function.comp, UInt8.toNat_ofNat', id]
  omega
theorem str_bytesOf (s : ByteArray) : strOfNums (bytesOf s) = s := bytesOf_inj (bytesOf_str (fun _ => bytesOf_range))
theorem bytesOf_extract (s : ByteArray) (a b : Nat) : bytesOf (s.extract a b) = ((bytesOf s).drop a).take (b - a) := by
  unfold bytesOf
  rw [Lib.extract_data, List.map_take, List.map_drop]
theorem bytesOf_app (a b : ByteArray) : bytesOf (a ++ b) = bytesOf a ++ bytesOf b := by
  unfold bytesOf
  rw [← List.map_append]
  congr 1
  first | done | simp
theorem bt_getD (s : ByteArray) (i : Int) : bt s i = (bytesOf s).getD i.toNat 0 := (rd_bytesOf s i).symm
theorem bytesOf_empty : bytesOf (⟨#[]⟩ : ByteArray) = [] := rfl
theorem size_eq (s : ByteArray) : s.size = (bytesOf s).length := (bytesOf_length s).symm
theorem size_app (a b : ByteArray) : (a ++ b).size = a.size + b.size := by simp

theorem rdS_get {l : List ByteArray} {i : Int} (h : i.toNat < l.length) : rdOf ByteArray.empty l i = l[i.toNat] := by
  unfold rdOf; rw [List.getD_eq_getElem?_getD, List.getElem?_eq_getElem h]; rfl
def shortL (l : List ByteArray) : Bool := l.all (fun s => decide ((s.size : Int) ≤ 60))
theorem shortL_iff (l : List ByteArray) : shortL l = true ↔ ∀ s ∈ l, s.size ≤ 60 := by
  unfold shortL
  rw [List.all_eq_true]
  exact ⟨fun h s hs => by have := of_decide_eq_true (h s hs); omega, fun h s hs => decide_eq_true (by have := h s hs; omega)⟩
theorem shortL_cons (s : ByteArray) (l : List ByteArray) : shortL (s :: l) = (decide ((s.size : Int) ≤ 60) && shortL l) := rfl

theorem asc_ext : ∀ a b : List Int, a.Pairwise (· < ·) → b.Pairwise (· < ·) → (∀ x, x ∈ a ↔ x ∈ b) → a = b := by
  intro a
  induction a with
  | nil =>
    intro b _ _ h
    cases b with
    | nil => rfl
    | cons y b => exact absurd ((h y).2 (List.mem_cons_self ..)) (by simp)
  | cons x a ih =>
    intro b ha hb h
    cases b with
    | nil => exact absurd ((h x).1 (List.mem_cons_self ..)) (by simp)
    | cons y b =>
      rw [List.pairwise_cons] at ha hb
      have e : x = y := by
        rcases List.mem_cons.1 ((h x).1 (List.mem_cons_self ..)) with h1 | h1
        · exact h1
        · rcases List.mem_cons.1 ((h y).2 (List.mem_cons_self ..)) with h2 | h2
          · exact h2.symm
          · have := hb.1 x h1; have := ha.1 y h2; omega
      subst e
      rw [ih b ha.2 hb.2 (fun z => ⟨fun hz => ?_, fun hz => ?_⟩)]
      · rcases List.mem_cons.1 ((h z).1 (List.mem_cons_of_mem _ hz)) with h1 | h1
        · have := ha.1 z hz; omega
        · exact h1
      · rcases List.mem_cons.1 ((h z).2 (List.mem_cons_of_mem _ hz)) with h1 | h1
        · have := hb.1 z hz; omega
        · exact h1
/-! ### what is sorted, each once -/
theorem compactUp (z : List Int) (hz : z.Pairwise (· ≤ ·)) : ∀ m, m ≤ z.length → (Lib.compactUpTo z.toArray m).Pairwise (· < ·) ∧ ∀ x, x ∈ Lib.compactUpTo z.toArray m ↔ x ∈ z.take m := by
  intro m
  induction m with
  | zero => intro _; simp [Lib.compactUpTo]
  | succ m ih =>
    intro hm
    obtain ⟨h1, h2⟩ := ih (by omega)
    have hg : ∀ j, j < z.length → z.toArray[j]! = z.getD j 0 := by
      intro j hj
      rw [getElem!_pos _ j (by simpa using hj), List.getD_eq_getElem?_getD, List.getElem?_eq_getElem hj]; simp
    have hgm : z.getD m 0 = z[m] := by rw [List.getD_eq_getElem?_getD, List.getElem?_eq_getElem (by omega)]; rfl
    rw [Lib.compactUpTo_succ, List.take_succ_eq_append_getElem (by omega)]
    have hlast : 0 < m → z.getD (m - 1) 0 ∈ z.take m := by
      intro h0
      rw [List.getD_eq_getElem?_getD, List.getElem?_eq_getElem (show m - 1 < z.length by omega)]
      simp only [Option.getD_some]
      rw [List.mem_take_iff_getElem]
      exact ⟨m - 1, by omega, rfl⟩
    have hle : ∀ x ∈ z.take m, 0 < m → x ≤ z.getD (m - 1) 0 := by
      intro x hx h0
      rw [List.mem_take_iff_getElem] at hx
      obtain ⟨j, hj, rfl⟩ := hx
      rw [List.getD_eq_getElem?_getD, List.getElem?_eq_getElem (show m - 1 < z.length by omega)]
      simp only [Option.getD_some]
      rcases Nat.lt_or_ge j (m - 1) with hlt | hge
      · exact List.pairwise_iff_getElem.1 hz j (m - 1) _ _ hlt
      · have : j = m - 1 := by omega
        subst this; omega
    rcases Nat.eq_zero_or_pos m with h0 | h0
    · subst h0
      rw [Lib.keeps_lt_one _ 0 (by omega), hg 0 (by omega), hgm]
      simp [Lib.compactUpTo]
    · have hadj : z.getD (m - 1) 0 ≤ z.getD m 0 := by
        rw [hgm, List.getD_eq_getElem?_getD, List.getElem?_eq_getElem (show m - 1 < z.length by omega)]
        exact List.pairwise_iff_getElem.1 hz (m - 1) m _ _ (by omega)
      by_cases hk : z.getD m 0 = z.getD (m - 1) 0
      · rw [Lib.keeps_neg h0 (by rw [hg m (by omega), hg (m - 1) (by omega), hk])]
        simp only [Bool.false_eq_true, if_false, List.append_nil]
        refine ⟨h1, fun x => ?_⟩
        rw [h2, List.mem_append, List.mem_singleton]
        refine ⟨.inl, fun h => h.elim id (fun h => ?_)⟩
        rw [h, ← hgm, hk]
        exact hlast h0
      · rw [Lib.keeps_pos (by rw [hg m (by omega), hg (m - 1) (by omega)]; exact hk), hg m (by omega)]
        simp only [if_true]
        refine ⟨?_, fun x => ?_⟩
        · rw [List.pairwise_append]
          refine ⟨h1, List.pairwise_singleton _ _, fun a ha b hb => ?_⟩
          have e := List.mem_singleton.1 hb
          have := hle a ((h2 a).1 ha) h0
          omega
        · rw [List.mem_append, List.mem_append, h2, List.mem_singleton, List.mem_singleton, hgm]
def uniqS (l : List Int) : List Int := Lib.compact (l.mergeSort fun x y => decide (x ≤ y))
theorem sorted_le (l : List Int) : (l.mergeSort fun x y => decide (x ≤ y)).Pairwise (· ≤ ·) := by
  have h := List.pairwise_mergeSort (le := fun x y : Int => decide (x ≤ y)) (fun a b c h1 h2 => by simp at *; omega) (fun a b => by simp; omega) l
  exact h.imp (fun h => by simpa using h)
theorem uniqS_ok (l : List Int) : (uniqS l).Pairwise (· < ·) ∧ ∀ x, x ∈ uniqS l ↔ x ∈ l := by
  have h := compactUp _ (sorted_le l) _ (Nat.le_refl _)
  refine ⟨h.1, fun x => ?_⟩
  unfold uniqS Lib.compact
  rw [h.2 x, List.take_length, List.mem_mergeSort]
/-! ### the pieces between places -/
def pieces (s : ByteArray) : Int → List Int → List ByteArray
  | b, [] => [s.extract b.toNat s.size]
  | b, k :: t => s.extract b.toNat k.toNat :: pieces s k t
theorem pieces_len (s : ByteArray) (l : List Int) : ∀ b, (pieces s b l).length = l.length + 1 := by
  induction l with
  | nil => intro b; rfl
  | cons k l ih => intro b; simp [pieces, ih]
def resC (m p : Int) : Int := if Int.tmod p m < 0 then Int.tmod p m + m else Int.tmod p m
theorem tmod_bd (p m : Int) (hm : 0 < m) : -m < Int.tmod p m ∧ Int.tmod p m < m := by
  refine ⟨?_, Int.tmod_lt_of_pos p hm⟩
  have h := Int.tmod_lt_of_pos (-p) hm
  rw [Int.neg_tmod] at h
  omega
theorem resC_bd (p m : Int) (hm : 0 < m) : 0 ≤ resC m p ∧ resC m p < m := by
  have := tmod_bd p m hm
  unfold resC
  split <;> omega
def cutT (s : ByteArray) (l : List Int) : List ByteArray := pieces s 0 (uniqS (l.map (resC ((s.size : Int) + 1))))
def posB : Int → List Bool → List Int
  | _, [] => []
  | i, true :: t => i :: posB (i + 1) t
  | i, false :: t => posB (i + 1) t
theorem posB_mem (t : List Bool) : ∀ i x, x ∈ posB i t ↔ ∃ j : Nat, t[j]? = some true ∧ x = i + j := by
  induction t with
  | nil => intro i x; simp [posB]
  | cons b t ih =>
    intro i x
    have hs : (∃ j : Nat, (b :: t)[j]? = some true ∧ x = i + j) ↔ (b = true ∧ x = i) ∨ ∃ j : Nat, t[j]? = some true ∧ x = i + 1 + j := by
      constructor
      · rintro ⟨j, h1, h2⟩
        cases j with
        | zero => exact .inl ⟨by simpa using h1, by omega⟩
        | succ j => exact .inr ⟨j, by simpa using h1, by omega⟩
      · rintro (⟨h1, h2⟩ | ⟨j, h1, h2⟩)
        · exact ⟨0, by simp [h1], by omega⟩
        · exact ⟨j + 1, by simpa using h1, by omega⟩
    rw [hs]
    cases b with
    | true => simp [posB, ih]
    | false => simp [posB, ih]
theorem posB_asc (t : List Bool) : ∀ i, (posB i t).Pairwise (· < ·) := by
  induction t with
  | nil => intro i; simp [posB]
  | cons b t ih =>
    intro i
    cases b with
    | true =>
      rw [posB, List.pairwise_cons]
      refine ⟨fun x hx => ?_, ih _⟩
      obtain ⟨j, _, h⟩ := (posB_mem t (i + 1) x).1 hx
      omega
    | false => rw [posB]; exact ih _

theorem implCut_l1 (s : ByteArray) (A : List Int) (hs : s.size ≤ 2097152) (hA : A.length ≤ 2097152) (hp : A.Pairwise (· < ·)) (hr : ∀ x ∈ A, 0 ≤ x ∧ x ≤ s.size) (d : Nat) : ∀ (j : Nat) (acc : List ByteArray) (b : Int), A.length - j = d → j ≤ A.length → acc.length ≤ j → 0 ≤ b → b ≤ s.size → (∀ x ∈ A.drop j, b ≤ x) → Gets (fun k => impl_CutAt.l1 k s acc b A (A.length : Int) (j : Int)) (· = acc ++ pieces s b (A.drop j)) := by
  induction d with
  | zero =>
    intro j acc b hd hj ha hb0 hb1 _
    refine Gets.step (fun k => impl_CutAt.l1.eq_2 ..) (Gets.neg (by omega) (Gets.pos hb0 (Gets.pos hb1 (Gets.pos (by omega) (Gets.ret ?_)))))
    rw [List.drop_of_length_le (by omega)]; rfl
  | succ d ih =>
    intro j acc b hd hj ha hb0 hb1 hb
    have hjl : j < A.length := by omega
    have hx := hr A[j] (List.getElem_mem hjl)
    have e1 : rd A (j : Int) = A[j] := rd_get (by simpa using hjl)
    have hbx : b ≤ A[j] := hb _ (by rw [drop_at A j hjl]; exact List.mem_cons_self ..)
    refine Gets.step (fun k => impl_CutAt.l1.eq_2 ..) (Gets.pos (by omega) (Gets.pos (by omega) (Gets.pos (by omega) (Gets.pos hb0 ?_))))
    simp only [e1]
    refine Gets.pos hbx (Gets.pos hx.2 (Gets.pos (by omega) ?_))
    rw [wrapId (by omega) (by omega), show ((j : Int) + 1) = ((j + 1 : Nat) : Int) by omega, drop_at A j hjl]
    refine (ih (j + 1) _ _ (by omega) (by omega) (by simp; omega) hx.1 hx.2 (fun y hy => ?_)).mono (fun r hr => by rw [hr]; simp [pieces])
    have h9 : (A.drop j).Pairwise (· < ·) := hp.sublist (List.drop_sublist ..)
    rw [drop_at A j hjl, List.pairwise_cons] at h9
    have := h9.1 y hy
    omega
theorem implCut_l0 (s : ByteArray) (l : List Int) (hs : s.size ≤ 2097152) (hl : l.length ≤ 2097152) (d : Nat) : ∀ (i : Nat) (acc : List Int), l.length - i = d → i ≤ l.length → acc = (l.take i).map (resC ((s.size : Int) + 1)) → Gets (fun k => impl_CutAt.l0 k s acc l (l.length : Int) (i : Int)) (· = cutT s l) := by
  induction d with
  | zero =>
    intro i acc hd hi ha
    refine Gets.step (fun k => impl_CutAt.l0.eq_2 ..) (Gets.neg (by omega) ?_)
    rw [List.take_of_length_le (by omega)] at ha
    have hal : acc.length = l.length := by rw [ha]; simp
    unfold slices_Sort_int_int.f slices_Compact_int_int.f
    rw [if_pos (by omega)]
    simp only [Option.bind_some]
    obtain ⟨h1, h2⟩ := uniqS_ok acc
    have hr : ∀ x ∈ uniqS acc, 0 ≤ x ∧ x ≤ s.size := by
      intro x hx
      have := (h2 x).1 hx
      rw [ha] at this
      obtain ⟨p, _, rfl⟩ := List.mem_map.1 this
      have := resC_bd p ((s.size : Int) + 1) (by omega)
      omega
    have hA : (uniqS acc).length ≤ 2097152 := by
      have h3 := Lib.compact_length_le (acc.mergeSort fun x y => decide (x ≤ y))
      rw [List.length_mergeSort] at h3
      unfold uniqS; omega
    refine (implCut_l1 s (uniqS acc) hs hA h1 hr _ 0 [] 0 rfl (by omega) (by simp) (by omega) (by omega) (fun x hx => (hr x (by simpa using hx)).1)).mono (fun r hr => ?_)
    rw [hr, ha]; simp [cutT]
  | succ d ih =>
    intro i acc hd hi ha
    have hil : i < l.length := by omega
    have e1 : rd l (i : Int) = l[i] := rd_get (by simpa using hil)
    have hm := tmod_bd l[i] ((s.size : Int) + 1) (by omega)
    have hal : acc.length = i := by rw [ha]; simp; omega
    have hnext : acc ++ [resC ((s.size : Int) + 1) l[i]] = (l.take (i + 1)).map (resC ((s.size : Int) + 1)) := by
      rw [List.take_succ_eq_append_getElem hil, List.map_append, ha]; rfl
    refine Gets.step (fun k => impl_CutAt.l0.eq_2 ..) (Gets.pos (by omega) (Gets.pos (by omega) (Gets.pos (by omega) ?_)))
    simp only [e1]
    rw [wrapId (x := (s.size : Int) + 1) (by omega) (by omega)]
    refine Gets.neg (by omega) (Gets.ite (fun h => Gets.pos (by omega) ?_) (fun h => Gets.pos (by omega) ?_))
    · rw [wrapId (x := Int.tmod _ _ + _) (by omega) (by omega), wrapId (by omega) (by omega), show ((i : Int) + 1) = ((i + 1 : Nat) : Int) by omega]
      exact ih (i + 1) _ (by omega) (by omega) (by rw [← hnext]; unfold resC; rw [if_pos h])
    · rw [wrapId (by omega) (by omega), show ((i : Int) + 1) = ((i + 1 : Nat) : Int) by omega]
      exact ih (i + 1) _ (by omega) (by omega) (by rw [← hnext]; unfold resC; rw [if_neg h])
theorem implCut (s : ByteArray) (l : List Int) (hs : s.size ≤ 2097152) (hl : l.length ≤ 2097152) : Gets (fun k => impl_CutAt.f k s l) (· = cutT s l) := by
  unfold impl_CutAt.f
  exact implCut_l0 s l hs hl _ 0 [] rfl (by omega) (by simp)

theorem specCut_l1 (s : ByteArray) (c : List Bool) (hs : s.size ≤ 2097152) (hc : c.length = s.size + 1) (d : Nat) : ∀ (i : Nat) (acc : List ByteArray) (b : Int), c.length - i = d → i ≤ c.length → acc.length ≤ i → 0 ≤ b → b ≤ i → b ≤ s.size → Gets (fun k => spec_CutAt.l1 k s c acc b (i : Int)) (· = acc ++ pieces s b (posB i (c.drop i))) := by
  induction d with
  | zero =>
    intro i acc b hd hi ha hb0 hb1 hb2
    refine Gets.step (fun k => spec_CutAt.l1.eq_2 ..) (Gets.neg (by omega) (Gets.pos hb0 (Gets.pos hb2 (Gets.pos (by omega) (Gets.ret ?_)))))
    rw [List.drop_of_length_le (by omega)]; rfl
  | succ d ih =>
    intro i acc b hd hi ha hb0 hb1 hb2
    have hil : i < c.length := by omega
    have e1 : rdOf false c (i : Int) = c[i] := by unfold rdOf; rw [List.getD_eq_getElem?_getD, Int.toNat_natCast, List.getElem?_eq_getElem hil]; rfl
    refine Gets.step (fun k => spec_CutAt.l1.eq_2 ..) (Gets.pos (by omega) (Gets.pos (by omega) (Gets.pos (by omega) ?_)))
    simp only [e1]
    rw [wrapId (by omega) (by omega), show ((i : Int) + 1) = ((i + 1 : Nat) : Int) by omega, drop_at c i hil]
    cases hb : c[i] with
    | true =>
      refine Gets.pos rfl (Gets.pos hb0 (Gets.pos hb1 (Gets.pos (by omega) ?_)))
      refine (ih (i + 1) _ _ (by omega) (by omega) (by simp; omega) (by omega) (by omega) (by omega)).mono (fun r hr => ?_)
      rw [hr, posB, show ((i + 1 : Nat) : Int) = (i : Int) + 1 by omega]
      simp [pieces]
    | false =>
      refine Gets.neg (by simp) ?_
      refine (ih (i + 1) _ _ (by omega) (by omega) (by omega) (by omega) (by omega) (by omega)).mono (fun r hr => ?_)
      rw [hr, posB, show ((i + 1 : Nat) : Int) = (i : Int) + 1 by omega]
theorem specCut_l0 (s : ByteArray) (l : List Int) (hs : s.size ≤ 2097152) (hl : l.length ≤ 2097152) (d : Nat) : ∀ (i : Nat) (c : List Bool), l.length - i = d → i ≤ l.length → c.length = s.size + 1 → (∀ j : Nat, c[j]? = some true ↔ (j : Int) ∈ (l.take i).map (resC ((s.size : Int) + 1))) → Gets (fun k => spec_CutAt.l0 k s l c (i : Int)) (· = cutT s l) := by
  induction d with
  | zero =>
    intro i c hd hi hc hm
    refine Gets.step (fun k => spec_CutAt.l0.eq_2 ..) (Gets.neg (by omega) ?_)
    rw [List.take_of_length_le (by omega)] at hm
    refine (specCut_l1 s c hs hc _ 0 [] 0 rfl (by omega) (by simp) (by omega) (by omega) (by omega)).mono (fun r hr => ?_)
    rw [hr]
    unfold cutT
    simp only [List.nil_append, List.drop_zero]
    congr 1
    obtain ⟨h1, h2⟩ := uniqS_ok (l.map (resC ((s.size : Int) + 1)))
    refine asc_ext _ _ (posB_asc _ _) h1 (fun x => ?_)
    rw [posB_mem, h2]
    constructor
    · rintro ⟨j, h3, rfl⟩
      have := (hm j).1 h3
      simpa using this
    · intro hx
      have hx' := hx
      obtain ⟨p, _, rfl⟩ := List.mem_map.1 hx
      have := resC_bd p ((s.size : Int) + 1) (by omega)
      refine ⟨(resC ((s.size : Int) + 1) p).toNat, (hm _).2 ?_, by omega⟩
      rw [show (((resC ((s.size : Int) + 1) p).toNat : Nat) : Int) = resC ((s.size : Int) + 1) p by omega]
      exact hx'
  | succ d ih =>
    intro i c hd hi hc hm
    have hil : i < l.length := by omega
    have e1 : rd l (i : Int) = l[i] := rd_get (by simpa using hil)
    have ht := tmod_bd l[i] ((s.size : Int) + 1) (by omega)
    have hr := resC_bd l[i] ((s.size : Int) + 1) (by omega)
    have hnext : ∀ v : Int, v = resC ((s.size : Int) + 1) l[i] → ∀ j : Nat, (c.set v.toNat true)[j]? = some true ↔ (j : Int) ∈ (l.take (i + 1)).map (resC ((s.size : Int) + 1)) := by
      intro v hv j
      rw [List.take_succ_eq_append_getElem hil, List.map_append, List.mem_append, ← hm j, List.getElem?_set]
      simp only [List.map_cons, List.map_nil, List.mem_singleton]
      by_cases hj : v.toNat = j
      · rw [if_pos hj, if_pos (by omega)]
        simp only [true_iff]
        right; omega
      · rw [if_neg hj]
        refine ⟨.inl, fun h => h.elim id (fun h => absurd h (by omega))⟩
    refine Gets.step (fun k => spec_CutAt.l0.eq_2 ..) (Gets.pos (by omega) (Gets.pos (by omega) ?_))
    simp only [e1]
    rw [wrapId (x := (s.size : Int) + 1) (by omega) (by omega)]
    refine Gets.neg (by omega) (Gets.ite (fun h => ?_) (fun h => ?_))
    · rw [wrapId (x := Int.tmod _ _ + _) (by omega) (by omega), wrapId (x := Int.tmod _ _ + _ + 1) (by omega) (by omega), wrapId (by omega) (by omega), show ((i : Int) + 1) = ((i + 1 : Nat) : Int) by omega]
      refine Gets.pos (by omega) (Gets.pos (by omega) ?_)
      exact ih (i + 1) _ (by omega) (by omega) (by simpa using hc) (hnext _ (by unfold resC; rw [if_pos h]; omega))
    · rw [wrapId (by omega) (by omega), show ((i : Int) + 1) = ((i + 1 : Nat) : Int) by omega]
      refine Gets.pos (by omega) (Gets.pos (by omega) ?_)
      exact ih (i + 1) _ (by omega) (by omega) (by simpa using hc) (hnext _ (by unfold resC; rw [if_neg h]))
theorem specCut (s : ByteArray) (l : List Int) (hs : s.size ≤ 2097152) (hl : l.length ≤ 2097152) : Gets (fun k => spec_CutAt.f k s l) (· = cutT s l) := by
  unfold spec_CutAt.f
  rw [wrapId (by omega) (by omega)]
  refine Gets.pos (by omega) (Gets.pos (by omega) ?_)
  refine specCut_l0 s l hs hl _ 0 _ rfl (by omega) (by rw [List.length_replicate]; omega) (fun j => ?_)
  simp [List.getElem?_replicate]

/-! ### the reader of draws: it always answers -/
theorem and_i64 (x : Int) (m : Nat) (hm : m < 9223372036854775808) : 0 ≤ Go.bits .and .i64 x (m : Int) ∧ Go.bits .and .i64 x (m : Int) ≤ (m : Int) := by
  have h1 : (BitVec.ofInt IntKind.i64.bits x &&& BitVec.ofInt IntKind.i64.bits (m : Int)).toNat ≤ m := by
    rw [BitVec.toNat_and]
    refine Nat.le_trans Nat.and_le_right ?_
    rw [BitVec.ofInt_natCast, BitVec.toNat_ofNat]
    exact Nat.mod_le _ _
  unfold Go.bits
  simp only [IntKind.wrap_i64]
  omega
theorem and255 (x : Int) : 0 ≤ Go.bits .and .i64 x 255 ∧ Go.bits .and .i64 x 255 < 256 := by
  have h := and_i64 x 255 (by decide)
  rw [show ((255 : Nat) : Int) = 255 from rfl] at h
  omega
theorem wrap_bd (x : Int) : -9223372036854775808 ≤ wrap64 x ∧ wrap64 x ≤ 9223372036854775807 := by unfold wrap64; omega
theorem dByte (l : List Int) (p z : Int) (hl : l.length ≤ 1048576) (hp : 0 ≤ p ∧ p ≤ l.length) : ∃ v p' z', spec_l01Byte.f l p z = some (v, p', z') ∧ (0 ≤ v ∧ v < 256) ∧ 0 ≤ p' ∧ p' ≤ l.length := by
  unfold spec_l01Byte.f
  by_cases h : p < (l.length : Int)
  · rw [if_pos h, if_pos hp.1]
    refine ⟨_, _, _, rfl, and255 _, ?_⟩
    rw [wrapId (by omega) (by omega)]; omega
  · rw [if_neg h]
    exact ⟨_, _, _, rfl, and255 _, hp⟩
theorem dBelow (l : List Int) (p z n : Int) (hl : l.length ≤ 1048576) (hp : 0 ≤ p ∧ p ≤ l.length) (hn : 0 < n) : ∃ v p' z', spec_l01Below.f l p z n = some (v, p', z') ∧ (0 ≤ v ∧ v < n) ∧ 0 ≤ p' ∧ p' ≤ l.length := by
  unfold spec_l01Below.f
  rw [if_neg (by omega)]
  by_cases h : n ≤ 256
  · rw [if_pos h]
    obtain ⟨v, p1, z1, e1, hv, hp1⟩ := dByte l p z hl hp
    rw [e1]
    simp only [Option.bind_some]
    rw [if_neg (by omega)]
    refine ⟨_, _, _, rfl, ?_, hp1⟩
    rw [tmod_nn hv.1]
    exact ⟨Int.emod_nonneg _ (by omega), Int.emod_lt_of_pos _ hn⟩
  · rw [if_neg h]
    obtain ⟨v1, p1, z1, e1, hv1, hp1⟩ := dByte l p z hl hp
    rw [e1]
    simp only [Option.bind_some]
    obtain ⟨v2, p2, z2, e2, hv2, hp2⟩ := dByte l p1 z1 hl hp1
    rw [e2]
    simp only [Option.bind_some]
    obtain ⟨v3, p3, z3, e3, hv3, hp3⟩ := dByte l p2 z2 hl hp2
    rw [e3]
    simp only [Option.bind_some]
    obtain ⟨v4, p4, z4, e4, hv4, hp4⟩ := dByte l p3 z3 hl hp3
    rw [e4]
    simp only [Option.bind_some]
    rw [if_neg (by omega)]
    refine ⟨_, _, _, rfl, ?_, hp4⟩
    rw [wrapId (x := v1 * 16777216) (by omega) (by omega), wrapId (x := v2 * 65536) (by omega) (by omega), wrapId (x := v1 * 16777216 + v2 * 65536) (by omega) (by omega), wrapId (x := v3 * 256) (by omega) (by omega), wrapId (x := v1 * 16777216 + v2 * 65536 + v3 * 256) (by omega) (by omega), wrapId (by omega) (by omega), tmod_nn (by omega)]
    exact ⟨Int.emod_nonneg _ (by omega), Int.emod_lt_of_pos _ hn⟩
theorem dNew_l0 (l : List Int) (hl : l.length ≤ 1048576) (d : Nat) : ∀ (i : Nat) (h : Int), l.length - i = d → i ≤ l.length → Gets (fun k => spec_l01New.l0 k l h (i : Int)) (fun r => r.1 = l ∧ r.2.1 = 0) := by
  induction d with
  | zero =>
    intro i h hd hi
    exact Gets.step (fun k => spec_l01New.l0.eq_2 ..) (Gets.neg (by omega) (Gets.ret ⟨rfl, rfl⟩))
  | succ d ih =>
    intro i h hd hi
    refine Gets.step (fun k => spec_l01New.l0.eq_2 ..) (Gets.pos (by omega) (Gets.ite (fun _ => Gets.pos (by omega) ?_) (fun _ => Gets.ret ⟨rfl, rfl⟩)))
    rw [wrapId (x := (i : Int) + 1) (by omega) (by omega), show ((i : Int) + 1) = ((i + 1 : Nat) : Int) by omega]
    exact ih (i + 1) _ (by omega) (by omega)
theorem dNew (l : List Int) (hl : l.length ≤ 1048576) : Gets (fun k => spec_l01New.f k l) (fun r => r.1 = l ∧ r.2.1 = 0) := by
  unfold spec_l01New.f
  exact dNew_l0 l hl _ 0 _ rfl (by omega)

theorem dText_l0 (l : List Int) (hl : l.length ≤ 1048576) (n : Int) (hn : n ≤ 5000) (d : Nat) : ∀ (i : Nat) (acc : List Int) (p z : Int), (n - i).toNat = d → acc.length = i → (0 ≤ p ∧ p ≤ l.length) → Gets (fun k => spec_l01Text.l0 k n acc (i : Int) l p z) (fun r => r.1.size = max i n.toNat ∧ 0 ≤ r.2.1 ∧ r.2.1 ≤ l.length) := by
  induction d with
  | zero =>
    intro i acc p z hd ha hp
    refine Gets.step (fun k => spec_l01Text.l0.eq_2 ..) (Gets.neg (by omega) (Gets.ret ⟨?_, hp⟩))
    show (strOfNums acc).size = _
    rw [strOfNums_size]; omega
  | succ d ih =>
    intro i acc p z hd ha hp
    refine Gets.step (fun k => spec_l01Text.l0.eq_2 ..) (Gets.pos (by omega) ?_)
    obtain ⟨v, p', z', e, hv, hp'⟩ := dByte l p z hl hp
    simp only [e, Option.bind_some]
    refine Gets.pos (by omega) ?_
    rw [wrapId (x := (i : Int) + 1) (by omega) (by omega), show ((i : Int) + 1) = ((i + 1 : Nat) : Int) by omega]
    exact (ih (i + 1) _ p' z' (by omega) (by simp; omega) hp').mono (fun r hr => ⟨by omega, hr.2⟩)
theorem dText (l : List Int) (p z n : Int) (hl : l.length ≤ 1048576) (hp : 0 ≤ p ∧ p ≤ l.length) (hn : 0 ≤ n ∧ n ≤ 5000) : Gets (fun k => spec_l01Text.f k l p z n) (fun r => r.1.size = n.toNat ∧ 0 ≤ r.2.1 ∧ r.2.1 ≤ l.length) := by
  unfold spec_l01Text.f
  refine Gets.neg (by omega) (Gets.step (fun k => spec_l01Text.j0.eq_2 ..) ?_)
  exact (dText_l0 l hl n (by omega) _ 0 [] p z rfl rfl hp).mono (fun r hr => ⟨by omega, hr.2⟩)

theorem dOnce (l : List Int) (p z n : Int) (hl : l.length ≤ 1048576) (hp : 0 ≤ p ∧ p ≤ l.length) (hn : 0 < n) : ∃ v p' z', spec_l01Once.f l p z n = some (v, p', z') ∧ 0 ≤ p' ∧ p' ≤ l.length := by
  unfold spec_l01Once.f
  obtain ⟨v, p', z', e, _, hp'⟩ := dBelow l p z n hl hp hn
  rw [e]
  exact ⟨_, _, _, rfl, hp'⟩

theorem dPickInt (l : List Int) (p z : Int) (m : List Int) (hl : l.length ≤ 1048576) (hp : 0 ≤ p ∧ p ≤ l.length) (hm : 0 < m.length) : ∃ v p' z', spec_l01PickInt.f l p z m = some (v, p', z') ∧ v ∈ m ∧ 0 ≤ p' ∧ p' ≤ l.length := by
  unfold spec_l01PickInt.f
  obtain ⟨v, p', z', e, hv, hp'⟩ := dBelow l p z (m.length : Int) hl hp (by omega)
  rw [e]
  simp only [Option.bind_some]
  rw [if_pos hv.1, if_pos hv.2]
  refine ⟨_, _, _, rfl, ?_, hp'⟩
  rw [rd_get (by omega)]
  exact List.getElem_mem _

theorem dPlace (l : List Int) (p z n : Int) (hl : l.length ≤ 1048576) (hp : 0 ≤ p ∧ p ≤ l.length) (hn : 0 < n) : ∃ v p' z', spec_l01Place.f l p z n = some (v, p', z') ∧ 0 ≤ p' ∧ p' ≤ l.length := by
  unfold spec_l01Place.f
  obtain ⟨v, p1, z1, e1, hp1⟩ := dOnce l p z 15 hl hp (by omega)
  rw [e1]
  simp only [Option.bind_some]
  split
  · obtain ⟨v2, p2, z2, e2, _, hp2⟩ := dPickInt l p1 z1 [-1, n, wrap64 (n + 1), 9223372036854775807, -9223372036854775808] hl hp1 (by simp)
    rw [e2]
    exact ⟨_, _, _, rfl, hp2⟩
  · obtain ⟨v2, p2, z2, e2, _, hp2⟩ := dBelow l p1 z1 n hl hp1 hn
    rw [e2]
    exact ⟨_, _, _, rfl, hp2⟩

theorem dCut_l0 (l : List Int) (hl : l.length ≤ 1048576) (s : ByteArray) (d : Nat) : ∀ (i : Nat) (acc : List Int) (p z : Int), 4 - i = d → acc.length ≤ i → i ≤ 4 → (0 ≤ p ∧ p ≤ l.length) → Gets (fun k => spec_DrawCutAt.l0 k s acc (i : Int) l p z) (fun r => r.1 = s ∧ r.2.length ≤ 4) := by
  induction d with
  | zero =>
    intro i acc p z hd ha hi hp
    refine Gets.step (fun k => spec_DrawCutAt.l0.eq_2 ..) ?_
    obtain ⟨v, p', z', e, hv, hp'⟩ := dBelow l p z 4 hl hp (by omega)
    simp only [e, Option.bind_some]
    exact Gets.neg (by omega) (Gets.ret ⟨rfl, by simp; omega⟩)
  | succ d ih =>
    intro i acc p z hd ha hi hp
    refine Gets.step (fun k => spec_DrawCutAt.l0.eq_2 ..) ?_
    obtain ⟨v, p', z', e, hv, hp'⟩ := dBelow l p z 4 hl hp (by omega)
    simp only [e, Option.bind_some]
    refine Gets.ite (fun h => ?_) (fun h => Gets.ret ⟨rfl, by simp; omega⟩)
    obtain ⟨v2, p2, z2, e2, hp2⟩ := dPlace l p' z' 14 hl hp' (by omega)
    simp only [e2, Option.bind_some]
    refine Gets.pos (by omega) ?_
    rw [wrapId (x := (i : Int) + 1) (by omega) (by omega), show ((i : Int) + 1) = ((i + 1 : Nat) : Int) by omega]
    exact ih (i + 1) _ p2 z2 (by omega) (by simp; omega) (by omega) hp2
theorem dCut (l : List Int) (hl : l.length ≤ 1048576) : Gets (fun k => spec_DrawCutAt.f k l) (fun r => r.1.size < 12 ∧ r.2.length ≤ 4) := by
  unfold spec_DrawCutAt.f
  refine Gets.bind (dNew l hl) (fun c hc => ?_)
  obtain ⟨c1, c2, c3⟩ := c
  obtain ⟨h1, h2⟩ := hc
  simp only at h1 h2
  subst h1 h2
  obtain ⟨v, p, z, e, hv, hp⟩ := dBelow c1 0 c3 12 hl (by omega) (by omega)
  simp only [e, Option.bind_some]
  refine Gets.bind (dText c1 p z v hl hp (by omega)) (fun t ht => ?_)
  exact (dCut_l0 c1 hl t.1 _ 0 [] t.2.1 t.2.2 rfl (by simp) (by omega) ht.2).mono (fun r hr => ⟨by rw [hr.1, ht.1]; omega, hr.2⟩)

theorem sameTexts_l0 (a b : List ByteArray) (ha : a.length ≤ 35184372088832) (hab : a.length = b.length) (d : Nat) : ∀ i : Nat, a.length - i = d → i ≤ a.length → Gets (fun k => laws_sameTexts.l0 k a b (i : Int)) (fun r => r = true ↔ a.drop i = b.drop i) := by
  induction d with
  | zero =>
    intro i hd hi
    refine Gets.step (fun k => laws_sameTexts.l0.eq_2 ..) (Gets.neg (by omega) (Gets.ret ?_))
    rw [List.drop_of_length_le (by omega), List.drop_of_length_le (by omega)]
    simp
  | succ d ih =>
    intro i hd hi
    refine Gets.step (fun k => laws_sameTexts.l0.eq_2 ..) (Gets.pos (by omega) (Gets.pos (by omega) (Gets.pos (by omega) ?_)))
    have e1 : rdOf ByteArray.empty a (i : Int) = a[i] := rdS_get (by omega)
    have e2 : rdOf ByteArray.empty b (i : Int) = b[i] := rdS_get (by omega)
    simp only [e1, e2]
    rw [wrapId (by omega) (by omega), drop_at a i (by omega), drop_at b i (by omega)]
    refine Gets.ite (fun h => ?_) (fun h => Gets.ret ?_)
    · rw [show ((i : Int) + 1) = ((i + 1 : Nat) : Int) by omega]
      refine (ih (i + 1) (by omega) (by omega)).mono (fun r hr => ?_)
      rw [hr]
      simp only [List.cons.injEq, (toList_iff _ _).1 h, true_and]
    · have hne : ¬ a[i] = b[i] := fun e => h (by rw [e])
      simp only [List.cons.injEq, hne, false_and, Bool.false_eq_true]
theorem sameTexts_true (a : List ByteArray) (ha : a.length ≤ 35184372088832) : Gets (fun k => laws_sameTexts.f k a a) (· = true) := by
  unfold laws_sameTexts.f
  exact Gets.pos rfl ((sameTexts_l0 a a ha rfl a.length 0 (by omega) (by omega)).mono (fun r hr => hr.2 rfl))

def joinB (l : List ByteArray) : List Int := (l.map bytesOf).flatten
theorem joinB_app (a b : List ByteArray) : joinB (a ++ b) = joinB a ++ joinB b := by unfold joinB; rw [List.map_append, List.flatten_append]
theorem joinB_len (s : ByteArray) (l : List ByteArray) (hs : s ∈ l) : s.size ≤ (joinB l).length := by
  rw [size_eq]
  induction l with
  | nil => simp at hs
  | cons t l ih =>
    simp only [joinB, List.map_cons, List.flatten_cons, List.length_append]
    rcases List.mem_cons.1 hs with rfl | h
    · omega
    · have := ih h; simp only [joinB] at this; omega
theorem pieces_join (s : ByteArray) (l : List Int) : ∀ b : Int, 0 ≤ b → b ≤ s.size → (∀ x ∈ l, b ≤ x ∧ x ≤ s.size) → l.Pairwise (· < ·) → joinB (pieces s b l) = (bytesOf s).drop b.toNat := by
  have hz := size_eq s
  induction l with
  | nil =>
    intro b h0 h1 _ _
    simp only [pieces, joinB, List.map_cons, List.map_nil, List.flatten_cons, List.flatten_nil, List.append_nil, bytesOf_extract]
    rw [List.take_of_length_le (by simp; omega)]
  | cons k l ih =>
    intro b h0 h1 hb hp
    rw [List.pairwise_cons] at hp
    have hk := hb k (List.mem_cons_self ..)
    have h := ih k (by omega) hk.2 (fun x hx => ⟨by have := hp.1 x hx; omega, (hb x (List.mem_cons_of_mem _ hx)).2⟩) hp.2
    have e : joinB (pieces s b (k :: l)) = bytesOf (s.extract b.toNat k.toNat) ++ joinB (pieces s k l) := rfl
    rw [e, h, bytesOf_extract]
    have e2 : (bytesOf s).drop k.toNat = ((bytesOf s).drop b.toNat).drop (k.toNat - b.toNat) := by rw [List.drop_drop]; congr 1; omega
    rw [e2, List.take_append_drop]
theorem cutT_join (s : ByteArray) (l : List Int) : joinB (cutT s l) = bytesOf s := by
  unfold cutT
  obtain ⟨h1, h2⟩ := uniqS_ok (l.map (resC ((s.size : Int) + 1)))
  rw [pieces_join s _ 0 (by omega) (by omega) (fun x hx => ?_) h1]
  · simp
  · obtain ⟨p, _, rfl⟩ := List.mem_map.1 ((h2 x).1 hx)
    have := resC_bd p ((s.size : Int) + 1) (by omega)
    omega
theorem cutT_len (s : ByteArray) (l : List Int) : (cutT s l).length ≤ l.length + 1 ∧ 1 ≤ (cutT s l).length := by
  unfold cutT
  rw [pieces_len]
  have h3 := Lib.compact_length_le ((l.map (resC ((s.size : Int) + 1))).mergeSort fun x y => decide (x ≤ y))
  rw [List.length_mergeSort, List.length_map] at h3
  unfold uniqS; omega

theorem cuts_l0 (s : ByteArray) (l : List Int) (hs : s.size ≤ 2097152) (hl : l.length ≤ 4) (d : Nat) : ∀ (i : Nat) (acc : ByteArray), (cutT s l).length - i = d → i ≤ (cutT s l).length → bytesOf acc = joinB ((cutT s l).take i) → Gets (fun k => laws_FnCuts.l0 k s l (cutT s l) acc (i : Int)) (· = true) := by
  have hln := cutT_len s l
  have hjn := cutT_join s l
  induction d with
  | zero =>
    intro i acc hd hi ha
    rw [List.take_of_length_le (by omega), hjn] at ha
    refine Gets.step (fun k => laws_FnCuts.l0.eq_2 ..) (Gets.neg (by omega) (Gets.pos (by rw [bytesOf_inj ha]) (Gets.pos (by omega) (Gets.pos (by rw [wrapId (by omega) (by omega)]; omega) ?_))))
    exact Gets.bindE (specCut s l hs (by omega)).ev (Gets.bindE (sameTexts_true _ (by omega)).ev (Gets.ret rfl))
  | succ d ih =>
    intro i acc hd hi ha
    have hil : i < (cutT s l).length := by omega
    have e1 : rdOf ByteArray.empty (cutT s l) (i : Int) = (cutT s l)[i] := rdS_get (by simpa using hil)
    refine Gets.step (fun k => laws_FnCuts.l0.eq_2 ..) (Gets.pos (by omega) (Gets.pos (by omega) ?_))
    simp only [e1]
    have h9 : joinB ((cutT s l).take (i + 1)) = bytesOf acc ++ bytesOf (cutT s l)[i] := by
      rw [List.take_succ_eq_append_getElem hil, joinB_app, ha]; simp [joinB]
    have hz : acc.size + (cutT s l)[i].size ≤ s.size := by
      have h8 : (joinB ((cutT s l).take (i + 1))).length ≤ (joinB (cutT s l)).length := by
        have e : joinB (cutT s l) = joinB ((cutT s l).take (i + 1)) ++ joinB ((cutT s l).drop (i + 1)) := by
          unfold joinB; rw [← List.flatten_append, ← List.map_append, List.take_append_drop]
        rw [e, List.length_append]; omega
      rw [h9, hjn, List.length_append, ← size_eq, ← size_eq, ← size_eq] at h8
      exact h8
    refine Gets.pos (by omega) ?_
    rw [wrapId (x := (i : Int) + 1) (by omega) (by omega), show ((i : Int) + 1) = ((i + 1 : Nat) : Int) by omega]
    exact ih (i + 1) _ (by omega) (by omega) (by rw [bytesOf_app, h9])
theorem FnCuts : Stat.FnCuts := by
  intro l _
  refine Gets.rounds ?_
  unfold laws_FnCuts.f laws_big.f
  simp only [Option.bind_some]
  refine Gets.ite (fun _ => Gets.ret rfl) (fun h => ?_)
  have hl : l.length ≤ 1048576 := by
    rcases Nat.lt_or_ge 1048576 l.length with h1 | h1
    · exact absurd (decide_eq_true (by omega)) h
    · exact h1
  refine Gets.bind (dCut l hl) (fun c hc => ?_)
  refine Gets.bindE (implCut c.1 c.2 (by omega) (by omega)).ev ?_
  exact cuts_l0 c.1 c.2 (by omega) hc.2 _ 0 _ rfl (by omega) (by simp [joinB, bytesOf_empty])

end Go.Proofs.Ytlnmiafahjddhad.Pure
