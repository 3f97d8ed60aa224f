/- Drawn texts come back from their frames, in whatever pieces these come. -/
import Derived.Test.YtlnmiafahjddhadStatFnFrames
import Derived.Lib.Strings
set_option linter.unusedVariables false
set_option linter.unusedSimpArgs false
namespace Go.Proofs.Ytlnmiafahjddhad.Pure
open Go.RowKit Go.Proofs.Ytlnmiafahjddhad.PFnFrames Go.Proofs.YtlnmiafahjddhadW.PrintWords Go.Proofs.YtlnmiafahjddhadW.PrintLast

/-! ### plain words: from some number of rounds on -/
def Gets {α : Type} (f : Nat → Option α) (Q : α → Prop) : Prop := ∃ r, Ev f r ∧ Q r
theorem Gets.ret {α : Type} {Q : α → Prop} {r : α} (h : Q r) : Gets (fun _ => some r) Q := ⟨r, Ev.now r, h⟩
theorem Gets.none {α : Type} {Q : α → Prop} (h : False) : Gets (fun _ => (Option.none : Option α)) Q := h.elim
theorem Gets.step {α : Type} {g f : Nat → Option α} {Q : α → Prop} (h : ∀ k, g (k + 1) = f k) (k : Gets f Q) : Gets g Q := by
  obtain ⟨r, hr, hq⟩ := k
  exact ⟨r, Ev.step h hr, hq⟩
theorem Ev.ite {α : Type} {c : Prop} [Decidable c] {f g : Nat → Option α} {r : α} (h : c → Ev f r) (k : ¬ c → Ev g r) : Ev (fun n => if c then f n else g n) r := by
  by_cases hc : c
  · simp only [hc, if_true]; exact h hc
  · simp only [hc, if_false]; exact k hc
theorem Gets.ite {α : Type} {c : Prop} [Decidable c] {f g : Nat → Option α} {Q : α → Prop} (h : c → Gets f Q) (k : ¬ c → Gets g Q) : Gets (fun n => if c then f n else g n) Q := by
  by_cases hc : c
  · simp only [hc, if_true]; exact h hc
  · simp only [hc, if_false]; exact k hc
theorem Gets.pos {α : Type} {c : Prop} [Decidable c] {f g : Nat → Option α} {Q : α → Prop} (hc : c) (h : Gets f Q) : Gets (fun n => if c then f n else g n) Q := by
  simp only [hc, if_true]; exact h
theorem Gets.neg {α : Type} {c : Prop} [Decidable c] {f g : Nat → Option α} {Q : α → Prop} (hc : ¬ c) (h : Gets g Q) : Gets (fun n => if c then f n else g n) Q := by
  simp only [hc, if_false]; exact h
theorem Gets.bind {α β : Type} {g : Nat → Option α} {f : Nat → α → Option β} {P : α → Prop} {Q : β → Prop} (h : Gets g P) (k : ∀ a, P a → Gets (fun n => f n a) Q) : Gets (fun n => (g n).bind (f n)) Q := by
  obtain ⟨a, ha, hp⟩ := h
  obtain ⟨r, hr, hq⟩ := k a hp
  exact ⟨r, Ev.bind ha hr, hq⟩
theorem Gets.bindE {α β : Type} {g : Nat → Option α} {f : Nat → α → Option β} {a : α} {Q : β → Prop} (h : Ev g a) (k : Gets (fun n => f n a) Q) : Gets (fun n => (g n).bind (f n)) Q := by
  obtain ⟨r, hr, hq⟩ := k
  exact ⟨r, Ev.bind h hr, hq⟩
theorem Gets.mono {α : Type} {f : Nat → Option α} {P Q : α → Prop} (h : Gets f P) (k : ∀ a, P a → Q a) : Gets f Q := by
  obtain ⟨r, hr, hp⟩ := h
  exact ⟨r, hr, k r hp⟩
theorem Gets.rounds {α : Type} {f : Nat → Option α} {r : α} (h : Gets f (· = r)) : ∃ k, f k = some r := by
  obtain ⟨a, ha, rfl⟩ := h
  exact ha.rounds
theorem Gets.ev {α : Type} {f : Nat → Option α} {r : α} (h : Gets f (· = r)) : Ev f r := by
  obtain ⟨a, ha, rfl⟩ := h
  exact ha
theorem Ev.gets {α : Type} {f : Nat → Option α} {r : α} {Q : α → Prop} (h : Ev f r) (hq : Q r) : Gets f Q := ⟨r, h, hq⟩
theorem Gets.same {α : Type} {o : Option α} {Q : α → Prop} {r : α} (h : o = some r) (hq : Q r) : Gets (fun _ => o) Q := by
  subst h; exact Gets.ret hq
theorem wrapId {x : Int} (h0 : -9223372036854775808 ≤ x) (h1 : x ≤ 9223372036854775807) : wrap64 x = x := by
  unfold wrap64; omega
theorem i64_bd {n : Int} (h : (Lit.int .i64 n).wf = true) : -9223372036854775808 ≤ n ∧ n ≤ 9223372036854775807 := by
  have hm : IntKind.i64.min = -9223372036854775808 := rfl
  simp [Lit.wf, hm] at h
  exact h
theorem boolEq {a b : Bool} {P Q : Prop} (ha : a = true ↔ P) (hb : b = true ↔ Q) (h : P ↔ Q) : a = b := by
  rw [Bool.eq_iff_iff, ha, hb, h]
theorem tmod_nn {a b : Int} (h : 0 ≤ a) : Int.tmod a b = a % b := Int.tmod_eq_emod_of_nonneg h
theorem tdiv_nn {a b : Int} (h : 0 ≤ a) : Int.tdiv a b = a / b := Int.tdiv_eq_ediv_of_nonneg h

/-! ### rows of numbers -/
theorem rd_get {l : List Int} {i : Int} (h : i.toNat < l.length) : rd l i = l[i.toNat] := by
  unfold rd; rw [List.getD_eq_getElem?_getD, List.getElem?_eq_getElem h]; rfl
theorem fill_step {α : Type} (l : List α) (d : α) (i : Nat) (h : i < l.length) : (l.take i ++ List.replicate (l.length - i) d).set i l[i] = l.take (i + 1) ++ List.replicate (l.length - (i + 1)) d := by
  have e : List.replicate (l.length - i) d = d :: List.replicate (l.length - (i + 1)) d := by
    rw [show l.length - i = (l.length - (i + 1)) + 1 by omega]; rfl
  rw [e, List.set_append_right _ _ (by rw [List.length_take]; omega), List.length_take, show i - min i l.length = 0 by omega, List.set_cons_zero, List.take_succ_eq_append_getElem h, List.append_assoc]
  rfl
theorem drop_at {α : Type} (l : List α) (i : Nat) (h : i < l.length) : l.drop i = l[i] :: l.drop (i + 1) := List.drop_eq_getElem_cons h
def marks (k : Int) (n : Nat) : List Int := (List.range n).map (fun (i : Nat) => k + (i : Int))
theorem marks_length (k : Int) (n : Nat) : (marks k n).length = n := by simp [marks]
theorem marks_get (k : Int) (n i : Nat) (h : i < n) : (marks k n)[i]'(by rw [marks_length]; exact h) = k + i := by simp [marks]

/-! ### texts as lists of numbers -/
theorem bytesOf_inj {a b : ByteArray} (h : bytesOf a = bytesOf b) : a = b := by
  have hl : a.data.toList = b.data.toList := by
    unfold bytesOf at h
    exact List.map_inj_right (fun x y hxy => UInt8.toNat_inj.1 (by exact_mod_cast hxy)) |>.1 h
  have hd : a.data = b.data := Array.toList_inj.1 hl
  cases a; cases b; cases hd; rfl
theorem toList_iff (a b : ByteArray) : a.toList = b.toList ↔ a = b := by
  rw [Lib.toList_data, Lib.toList_data]
  exact ⟨fun h => bytesOf_inj (by unfold bytesOf; rw [h]), fun h => by rw [h]⟩
theorem bytesOf_range {s : ByteArray} {x : Int} (h : x ∈ bytesOf s) : 0 ≤ x ∧ x < 256 := by
  unfold bytesOf at h
  obtain ⟨b, _, rfl⟩ := List.mem_map.1 h
  have := b.toNat_lt
  omega
theorem bytesOf_str {xs : List Int} (h : ∀ x ∈ xs, 0 ≤ x ∧ x < 256) : bytesOf (strOfNums xs) = xs := by
  unfold bytesOf
  rw [strOfNums_data, List.map_map]
  conv => rhs; rw [← List.map_id xs]
  refine List.map_congr_left (fun x hx => ?_)
  have := h x hx
  simp only [Function.comp, UInt8.toNat_ofNat', id]
  omega
theorem str_bytesOf (s : ByteArray) : strOfNums (bytesOf s) = s := bytesOf_inj (bytesOf_str (fun _ => bytesOf_range))
theorem bytesOf_extract (s : ByteArray) (a b : Nat) : bytesOf (s.extract a b) = ((bytesOf s).drop a).take (b - a) := by
  unfold bytesOf
  rw [Lib.extract_data, List.map_take, List.map_drop]
theorem bytesOf_app (a b : ByteArray) : bytesOf (a ++ b) = bytesOf a ++ bytesOf b := by
  unfold bytesOf
  rw [← List.map_append]
  congr 1
  first | done | simp
theorem bt_getD (s : ByteArray) (i : Int) : bt s i = (bytesOf s).getD i.toNat 0 := (rd_bytesOf s i).symm
theorem bytesOf_empty : bytesOf (⟨#[]⟩ : ByteArray) = [] := rfl
theorem size_eq (s : ByteArray) : s.size = (bytesOf s).length := (bytesOf_length s).symm
theorem size_app (a b : ByteArray) : (a ++ b).size = a.size + b.size := by simp

theorem rdS_get {l : List ByteArray} {i : Int} (h : i.toNat < l.length) : rdOf ByteArray.empty l i = l[i.toNat] := by
  unfold rdOf; rw [List.getD_eq_getElem?_getD, List.getElem?_eq_getElem h]; rfl
def shortL (l : List ByteArray) : Bool := l.all (fun s => decide ((s.size : Int) ≤ 60))
theorem shortL_iff (l : List ByteArray) : shortL l = true ↔ ∀ s ∈ l, s.size ≤ 60 := by
  unfold shortL
  rw [List.all_eq_true]
  exact ⟨fun h s hs => by have := of_decide_eq_true (h s hs); omega, fun h s hs => decide_eq_true (by have := h s hs; omega)⟩
theorem shortL_cons (s : ByteArray) (l : List ByteArray) : shortL (s :: l) = (decide ((s.size : Int) ≤ 60) && shortL l) := rfl

theorem asc_ext : ∀ a b : List Int, a.Pairwise (· < ·) → b.Pairwise (· < ·) → (∀ x, x ∈ a ↔ x ∈ b) → a = b := by
  intro a
  induction a with
  | nil =>
    intro b _ _ h
    cases b with
    | nil => rfl
    | cons y b => exact absurd ((h y).2 (List.mem_cons_self ..)) (by simp)
  | cons x a ih =>
    intro b ha hb h
    cases b with
    | nil => exact absurd ((h x).1 (List.mem_cons_self ..)) (by simp)
    | cons y b =>
      rw [List.pairwise_cons] at ha hb
      have e : x = y := by
        rcases List.mem_cons.1 ((h x).1 (List.mem_cons_self ..)) with h1 | h1
        · exact h1
        · rcases List.mem_cons.1 ((h y).2 (List.mem_cons_self ..)) with h2 | h2
          · exact h2.symm
          · have := hb.1 x h1; have := ha.1 y h2; omega
      subst e
      rw [ih b ha.2 hb.2 (fun z => ⟨fun hz => ?_, fun hz => ?_⟩)]
      · rcases List.mem_cons.1 ((h z).1 (List.mem_cons_of_mem _ hz)) with h1 | h1
        · have := ha.1 z hz; omega
        · exact h1
      · rcases List.mem_cons.1 ((h z).2 (List.mem_cons_of_mem _ hz)) with h1 | h1
        · have := hb.1 z hz; omega
        · exact h1
/-! ### what is sorted, each once -/
theorem compactUp (z : List Int) (hz : z.Pairwise (· ≤ ·)) : ∀ m, m ≤ z.length → (Lib.compactUpTo z.toArray m).Pairwise (· < ·) ∧ ∀ x, x ∈ Lib.compactUpTo z.toArray m ↔ x ∈ z.take m := by
  intro m
  induction m with
  | zero => intro _; simp [Lib.compactUpTo]
  | succ m ih =>
    intro hm
    obtain ⟨h1, h2⟩ := ih (by omega)
    have hg : ∀ j, j < z.length → z.toArray[j]! = z.getD j 0 := by
      intro j hj
      rw [getElem!_pos _ j (by simpa using hj), List.getD_eq_getElem?_getD, List.getElem?_eq_getElem hj]; simp
    have hgm : z.getD m 0 = z[m] := by rw [List.getD_eq_getElem?_getD, List.getElem?_eq_getElem (by omega)]; rfl
    rw [Lib.compactUpTo_succ, List.take_succ_eq_append_getElem (by omega)]
    have hlast : 0 < m → z.getD (m - 1) 0 ∈ z.take m := by
      intro h0
      rw [List.getD_eq_getElem?_getD, List.getElem?_eq_getElem (show m - 1 < z.length by omega)]
      simp only [Option.getD_some]
      rw [List.mem_take_iff_getElem]
      exact ⟨m - 1, by omega, rfl⟩
    have hle : ∀ x ∈ z.take m, 0 < m → x ≤ z.getD (m - 1) 0 := by
      intro x hx h0
      rw [List.mem_take_iff_getElem] at hx
      obtain ⟨j, hj, rfl⟩ := hx
      rw [List.getD_eq_getElem?_getD, List.getElem?_eq_getElem (show m - 1 < z.length by omega)]
      simp only [Option.getD_some]
      rcases Nat.lt_or_ge j (m - 1) with hlt | hge
      · exact List.pairwise_iff_getElem.1 hz j (m - 1) _ _ hlt
      · have : j = m - 1 := by omega
        subst this; omega
    rcases Nat.eq_zero_or_pos m with h0 | h0
    · subst h0
      rw [Lib.keeps_lt_one _ 0 (by omega), hg 0 (by omega), hgm]
      simp [Lib.compactUpTo]
    · have hadj : z.getD (m - 1) 0 ≤ z.getD m 0 := by
        rw [hgm, List.getD_eq_getElem?_getD, List.getElem?_eq_getElem (show m - 1 < z.length by omega)]
        exact List.pairwise_iff_getElem.1 hz (m - 1) m _ _ (by omega)
      by_cases hk : z.getD m 0 = z.getD (m - 1) 0
      · rw [Lib.keeps_neg h0 (by rw [hg m (by omega), hg (m - 1) (by omega), hk])]
        simp only [Bool.false_eq_true, if_false, List.append_nil]
        refine ⟨h1, fun x => ?_⟩
        rw [h2, List.mem_append, List.mem_singleton]
        refine ⟨.inl, fun h => h.elim id (fun h => ?_)⟩
        rw [h, ← hgm, hk]
        exact hlast h0
      · rw [Lib.keeps_pos (by rw [hg m (by omega), hg (m - 1) (by omega)]; exact hk), hg m (by omega)]
        simp only [if_true]
        refine ⟨?_, fun x => ?_⟩
        · rw [List.pairwise_append]
          refine ⟨h1, List.pairwise_singleton _ _, fun a ha b hb => ?_⟩
          have e := List.mem_singleton.1 hb
          have := hle a ((h2 a).1 ha) h0
          omega
        · rw [List.mem_append, List.mem_append, h2, List.mem_singleton, List.mem_singleton, hgm]
def uniqS (l : List Int) : List Int := Lib.compact (l.mergeSort fun x y => decide (x ≤ y))
theorem sorted_le (l : List Int) : (l.mergeSort fun x y => decide (x ≤ y)).Pairwise (· ≤ ·) := by
  have h := List.pairwise_mergeSort (le := fun x y : Int => decide (x ≤ y)) (fun a b c h1 h2 => by simp at *; omega) (fun a b => by simp; omega) l
  exact h.imp (fun h => by simpa using h)
theorem uniqS_ok (l : List Int) : (uniqS l).Pairwise (· < ·) ∧ ∀ x, x ∈ uniqS l ↔ x ∈ l := by
  have h := compactUp _ (sorted_le l) _ (Nat.le_refl _)
  refine ⟨h.1, fun x => ?_⟩
  unfold uniqS Lib.compact
  rw [h.2 x, List.take_length, List.mem_mergeSort]
/-! ### the pieces between places -/
def pieces (s : ByteArray) : Int → List Int → List ByteArray
  | b, [] => [s.extract b.toNat s.size]
  | b, k :: t => s.extract b.toNat k.toNat :: pieces s k t
theorem pieces_len (s : ByteArray) (l : List Int) : ∀ b, (pieces s b l).length = l.length + 1 := by
  induction l with
  | nil => intro b; rfl
  | cons k l ih => intro b; simp [pieces, ih]
def resC (m p : Int) : Int := if Int.tmod p m < 0 then Int.tmod p m + m else Int.tmod p m
theorem tmod_bd (p m : Int) (hm : 0 < m) : -m < Int.tmod p m ∧ Int.tmod p m < m := by
  refine ⟨?_, Int.tmod_lt_of_pos p hm⟩
  have h := Int.tmod_lt_of_pos (-p) hm
  rw [Int.neg_tmod] at h
  omega
theorem resC_bd (p m : Int) (hm : 0 < m) : 0 ≤ resC m p ∧ resC m p < m := by
  have := tmod_bd p m hm
  unfold resC
  split <;> omega
def cutT (s : ByteArray) (l : List Int) : List ByteArray := pieces s 0 (uniqS (l.map (resC ((s.size : Int) + 1))))
def posB : Int → List Bool → List Int
  | _, [] => []
  | i, true :: t => i :: posB (i + 1) t
  | i, false :: t => posB (i + 1) t
theorem posB_mem (t : List Bool) : ∀ i x, x ∈ posB i t ↔ ∃ j : Nat, t[j]? = some true ∧ x = i + j := by
  induction t with
  | nil => intro i x; simp [posB]
  | cons b t ih =>
    intro i x
    have hs : (∃ j : Nat, (b :: t)[j]? = some true ∧ x = i + j) ↔ (b = true ∧ x = i) ∨ ∃ j : Nat, t[j]? = some true ∧ x = i + 1 + j := by
      constructor
      · rintro ⟨j, h1, h2⟩
        cases j with
        | zero => exact .inl ⟨by simpa using h1, by omega⟩
        | succ j => exact .inr ⟨j, by simpa using h1, by omega⟩
      · rintro (⟨h1, h2⟩ | ⟨j, h1, h2⟩)
        · exact ⟨0, by simp [h1], by omega⟩
        · exact ⟨j + 1, by simpa using h1, by omega⟩
    rw [hs]
    cases b with
    | true => simp [posB, ih]
    | false => simp [posB, ih]
theorem posB_asc (t : List Bool) : ∀ i, (posB i t).Pairwise (· < ·) := by
  induction t with
  | nil => intro i; simp [posB]
  | cons b t ih =>
    intro i
    cases b with
    | true =>
      rw [posB, List.pairwise_cons]
      refine ⟨fun x hx => ?_, ih _⟩
      obtain ⟨j, _, h⟩ := (posB_mem t (i + 1) x).1 hx
      omega
    | false => rw [posB]; exact ih _

theorem implCut_l1 (s : ByteArray) (A : List Int) (hs : s.size ≤ 2097152) (hA : A.length ≤ 2097152) (hp : A.Pairwise (· < ·)) (hr : ∀ x ∈ A, 0 ≤ x ∧ x ≤ s.size) (d : Nat) : ∀ (j : Nat) (acc : List ByteArray) (b : Int), A.length - j = d → j ≤ A.length → acc.length ≤ j → 0 ≤ b → b ≤ s.size → (∀ x ∈ A.drop j, b ≤ x) → Gets (fun k => impl_CutAt.l1 k s acc b A (A.length : Int) (j : Int)) (· = acc ++ pieces s b (A.drop j)) := by
  induction d with
  | zero =>
    intro j acc b hd hj ha hb0 hb1 _
    refine Gets.step (fun k => impl_CutAt.l1.eq_2 ..) (Gets.neg (by omega) (Gets.pos hb0 (Gets.pos hb1 (Gets.pos (by omega) (Gets.ret ?_)))))
    rw [List.drop_of_length_le (by omega)]; rfl
  | succ d ih =>
    intro j acc b hd hj ha hb0 hb1 hb
    have hjl : j < A.length := by omega
    have hx := hr A[j] (List.getElem_mem hjl)
    have e1 : rd A (j : Int) = A[j] := rd_get (by simpa using hjl)
    have hbx : b ≤ A[j] := hb _ (by rw [drop_at A j hjl]; exact List.mem_cons_self ..)
    refine Gets.step (fun k => impl_CutAt.l1.eq_2 ..) (Gets.pos (by omega) (Gets.pos (by omega) (Gets.pos (by omega) (Gets.pos hb0 ?_))))
    simp only [e1]
    refine Gets.pos hbx (Gets.pos hx.2 (Gets.pos (by omega) ?_))
    rw [wrapId (by omega) (by omega), show ((j : Int) + 1) = ((j + 1 : Nat) : Int) by omega, drop_at A j hjl]
    refine (ih (j + 1) _ _ (by omega) (by omega) (by simp; omega) hx.1 hx.2 (fun y hy => ?_)).mono (fun r hr => by rw [hr]; simp [pieces])
    have h9 : (A.drop j).Pairwise (· < ·) := hp.sublist (List.drop_sublist ..)
    rw [drop_at A j hjl, List.pairwise_cons] at h9
    have := h9.1 y hy
    omega
theorem implCut_l0 (s : ByteArray) (l : List Int) (hs : s.size ≤ 2097152) (hl : l.length ≤ 2097152) (d : Nat) : ∀ (i : Nat) (acc : List Int), l.length - i = d → i ≤ l.length → acc = (l.take i).map (resC ((s.size : Int) + 1)) → Gets (fun k => impl_CutAt.l0 k s acc l (l.length : Int) (i : Int)) (· = cutT s l) := by
  induction d with
  | zero =>
    intro i acc hd hi ha
    refine Gets.step (fun k => impl_CutAt.l0.eq_2 ..) (Gets.neg (by omega) ?_)
    rw [List.take_of_length_le (by omega)] at ha
    have hal : acc.length = l.length := by rw [ha]; simp
    unfold slices_Sort_int_int.f slices_Compact_int_int.f
    rw [if_pos (by omega)]
    simp only [Option.bind_some]
    obtain ⟨h1, h2⟩ := uniqS_ok acc
    have hr : ∀ x ∈ uniqS acc, 0 ≤ x ∧ x ≤ s.size := by
      intro x hx
      have := (h2 x).1 hx
      rw [ha] at this
      obtain ⟨p, _, rfl⟩ := List.mem_map.1 this
      have := resC_bd p ((s.size : Int) + 1) (by omega)
      omega
    have hA : (uniqS acc).length ≤ 2097152 := by
      have h3 := Lib.compact_length_le (acc.mergeSort fun x y => decide (x ≤ y))
      rw [List.length_mergeSort] at h3
      unfold uniqS; omega
    refine (implCut_l1 s (uniqS acc) hs hA h1 hr _ 0 [] 0 rfl (by omega) (by simp) (by omega) (by omega) (fun x hx => (hr x (by simpa using hx)).1)).mono (fun r hr => ?_)
    rw [hr, ha]; simp [cutT]
  | succ d ih =>
    intro i acc hd hi ha
    have hil : i < l.length := by omega
    have e1 : rd l (i : Int) = l[i] := rd_get (by simpa using hil)
    have hm := tmod_bd l[i] ((s.size : Int) + 1) (by omega)
    have hal : acc.length = i := by rw [ha]; simp; omega
    have hnext : acc ++ [resC ((s.size : Int) + 1) l[i]] = (l.take (i + 1)).map (resC ((s.size : Int) + 1)) := by
      rw [List.take_succ_eq_append_getElem hil, List.map_append, ha]; rfl
    refine Gets.step (fun k => impl_CutAt.l0.eq_2 ..) (Gets.pos (by omega) (Gets.pos (by omega) (Gets.pos (by omega) ?_)))
    simp only [e1]
    rw [wrapId (x := (s.size : Int) + 1) (by omega) (by omega)]
    refine Gets.neg (by omega) (Gets.ite (fun h => Gets.pos (by omega) ?_) (fun h => Gets.pos (by omega) ?_))
    · rw [wrapId (x := Int.tmod _ _ + _) (by omega) (by omega), wrapId (by omega) (by omega), show ((i : Int) + 1) = ((i + 1 : Nat) : Int) by omega]
      exact ih (i + 1) _ (by omega) (by omega) (by rw [← hnext]; unfold resC; rw [if_pos h])
    · rw [wrapId (by omega) (by omega), show ((i : Int) + 1) = ((i + 1 : Nat) : Int) by omega]
      exact ih (i + 1) _ (by omega) (by omega) (by rw [← hnext]; unfold resC; rw [if_neg h])
theorem implCut (s : ByteArray) (l : List Int) (hs : s.size ≤ 2097152) (hl : l.length ≤ 2097152) : Gets (fun k => impl_CutAt.f k s l) (· = cutT s l) := by
  unfold impl_CutAt.f
  exact implCut_l0 s l hs hl _ 0 [] rfl (by omega) (by simp)

/-! ### check sums -/
def hf (x : Int) : Int := if x % 2 = 1 then Go.bits .xor .u32 (x / 2) 3558460437 else x / 2
def hfs : Nat → Int → Int
  | 0, x => x
  | n + 1, x => hfs n (hf x)
def crcL (x : Int) (l : List Int) : Int := l.foldl (fun x b => hfs 8 (Go.bits .xor .u32 x b)) x
theorem u32_wrap (n : Int) : IntKind.u32.wrap n = n % 4294967296 := IntKind.wrap_u32 n
theorem xor_bd (a b : Int) : 0 ≤ Go.bits .xor .u32 a b ∧ Go.bits .xor .u32 a b < 4294967296 := by
  unfold Go.bits
  simp only [u32_wrap]
  omega
theorem and1 (x : Int) (h0 : 0 ≤ x) (h1 : x < 4294967296) : Go.bits .and .u32 x 1 = x % 2 :=
  Go.bits_mask .u32 32 (by decide) (fun n a b => by rw [u32_wrap]; omega) 1 (by decide) x h0 (by simpa using h1)
theorem hf_bd {x : Int} (h0 : 0 ≤ x) (h1 : x < 4294967296) : 0 ≤ hf x ∧ hf x < 4294967296 := by
  unfold hf
  split
  · exact xor_bd _ _
  · omega
theorem hfs_bd : ∀ (n : Nat) {x : Int}, 0 ≤ x → x < 4294967296 → 0 ≤ hfs n x ∧ hfs n x < 4294967296
  | 0, x, h0, h1 => ⟨h0, h1⟩
  | n + 1, x, h0, h1 => hfs_bd n (hf_bd h0 h1).1 (hf_bd h0 h1).2
theorem crcL_bd (l : List Int) : ∀ {x : Int}, 0 ≤ x → x < 4294967296 → 0 ≤ crcL x l ∧ crcL x l < 4294967296 := by
  induction l with
  | nil => intro x h0 h1; exact ⟨h0, h1⟩
  | cons b l ih => intro x h0 h1; exact ih (hfs_bd 8 (xor_bd x b).1 (xor_bd x b).2).1 (hfs_bd 8 (xor_bd x b).1 (xor_bd x b).2).2
theorem bytes_drop (s : ByteArray) (i : Int) (h0 : 0 ≤ i) (h1 : i < s.size) : (bytesOf s).drop i.toNat = bt s i :: (bytesOf s).drop (i + 1).toNat := by
  have hl : (bytesOf s).length = s.size := bytesOf_length s
  rw [List.drop_eq_getElem_cons (by omega), show (i + 1).toNat = i.toNat + 1 by omega]
  congr 1
  unfold bt bytesOf
  rw [dif_pos (by omega)]
  simp
  rfl

theorem implSum_l1 (s : ByteArray) (i : Int) (Q : Int → Prop) (d : Nat) : ∀ x j : Int, 0 ≤ x → x < 4294967296 → 0 ≤ j → 8 - j = d → Gets (fun k => impl_SumMore.l0 k (hfs d x) s (wrap64 (i + 1))) Q → Gets (fun k => impl_SumMore.l1 k x s i j) Q := by
  induction d with
  | zero =>
    intro x j h0 h1 h2 hd h
    refine Gets.step (fun k => impl_SumMore.l1.eq_2 ..) ?_
    exact Gets.neg (by omega) h
  | succ d ih =>
    intro x j h0 h1 h2 hd h
    refine Gets.step (fun k => impl_SumMore.l1.eq_2 ..) ?_
    refine Gets.pos (by omega) ?_
    rw [and1 x h0 h1, wrapId (by omega) (by omega)]
    have hb := hf_bd h0 h1
    have hh : hfs (d + 1) x = hfs d (hf x) := rfl
    rw [hh] at h
    refine Gets.ite (fun hc => ?_) (fun hc => ?_)
    · have e : hf x = Go.bits .xor .u32 (x / 2) 3558460437 := by unfold hf; rw [if_pos hc]
      rw [e] at h hb
      exact ih _ _ hb.1 hb.2 (by omega) (by omega) h
    · have e : hf x = x / 2 := by unfold hf; rw [if_neg hc]
      rw [e] at h hb
      exact ih _ _ hb.1 hb.2 (by omega) (by omega) h
theorem implSum_l0 (s : ByteArray) (hs : s.size ≤ 140737488351232) (d : Nat) : ∀ x i : Int, 0 ≤ x → x < 4294967296 → 0 ≤ i → (s.size : Int) - i = d → Gets (fun k => impl_SumMore.l0 k x s i) (· = crcL x ((bytesOf s).drop i.toNat)) := by
  induction d with
  | zero =>
    intro x i h0 h1 h2 hd
    refine Gets.step (fun k => impl_SumMore.l0.eq_2 ..) ?_
    refine Gets.neg (by omega) (Gets.ret ?_)
    rw [List.drop_of_length_le (by rw [bytesOf_length]; omega)]
    rfl
  | succ d ih =>
    intro x i h0 h1 h2 hd
    refine Gets.step (fun k => impl_SumMore.l0.eq_2 ..) ?_
    refine Gets.pos (by omega) (Gets.pos h2 ?_)
    have hr := bt_range s i
    rw [show bt s i % 4294967296 = bt s i by omega]
    refine implSum_l1 s i _ 8 _ 0 (xor_bd _ _).1 (xor_bd _ _).2 (by omega) (by omega) ?_
    rw [wrapId (by omega) (by omega), bytes_drop s i h2 (by omega)]
    have hb := hfs_bd 8 (xor_bd x (bt s i)).1 (xor_bd x (bt s i)).2
    exact ih _ (i + 1) hb.1 hb.2 (by omega) (by omega)
theorem implSumMore (x : Int) (s : ByteArray) (h0 : 0 ≤ x) (h1 : x < 4294967296) (hs : s.size ≤ 140737488351232) : Gets (fun k => impl_SumMore.f k x s) (· = crcL x (bytesOf s)) := by
  unfold impl_SumMore.f
  exact implSum_l0 s hs s.size x 0 h0 h1 (by omega) (by omega)

def four (n : Int) : List Int := [n / 16777216 % 256, n / 65536 % 256, n / 256 % 256, n % 256]
def sumT (s : ByteArray) : ByteArray := strOfNums (four (crcL 4294967295 (bytesOf s)))
theorem sumT_size (s : ByteArray) : (sumT s).size = 4 := by unfold sumT; rw [strOfNums_size]; rfl

theorem implSumOf (s : ByteArray) (hs : s.size ≤ 140737488351232) : Gets (fun k => impl_SumOf.f k s) (· = crcL 4294967295 (bytesOf s)) := by
  unfold impl_SumOf.f
  exact Gets.bind (implSumMore _ s (by omega) (by omega) hs) (fun a ha => Gets.ret ha)
theorem implSumText (s : ByteArray) (hs : s.size ≤ 140737488351232) : Gets (fun k => impl_sumText.f k s) (· = sumT s) := by
  unfold impl_sumText.f
  refine Gets.bind (implSumOf s hs) (fun a ha => Gets.ret ?_)
  subst ha
  rfl

theorem str_app (xs ys : List Int) : strOfNums xs ++ strOfNums ys = strOfNums (xs ++ ys) := by
  have h : ∀ zs, bytesOf (strOfNums zs) = zs.map (fun n => ((UInt8.ofNat n.toNat).toNat : Int)) := fun zs => by
    unfold bytesOf; rw [strOfNums_data, List.map_map]; rfl
  refine bytesOf_inj ?_
  rw [bytesOf_app, h, h, h, List.map_append]
theorem bap_assoc (a b c : ByteArray) : (a ++ b) ++ c = a ++ (b ++ c) := bytesOf_inj (by rw [bytesOf_app, bytesOf_app, bytesOf_app, bytesOf_app, List.append_assoc])

theorem implHalf (s : ByteArray) (hs : s.size ≤ 140737488351232) : Gets (fun k => impl_halfSum.f k s) (· = (sumT s).extract 2 (sumT s).size) := by
  unfold impl_halfSum.f
  exact Gets.bindE (implSumText s hs).ev (Gets.pos (by rw [sumT_size]; omega) (Gets.ret rfl))
def halfL (s : ByteArray) : List Int := [crcL 4294967295 (bytesOf s) / 256 % 256, crcL 4294967295 (bytesOf s) % 256]
theorem four_range (n : Int) : ∀ x ∈ four n, 0 ≤ x ∧ x < 256 := by
  intro x hx
  simp only [four, List.mem_cons, List.not_mem_nil, or_false] at hx
  rcases hx with rfl | rfl | rfl | rfl <;> omega
theorem half_bytes (s : ByteArray) : bytesOf ((sumT s).extract 2 (sumT s).size) = halfL s := by
  rw [bytesOf_extract, sumT_size]
  unfold sumT
  rw [bytesOf_str (four_range _)]
  rfl
theorem half_str (s : ByteArray) : (sumT s).extract 2 (sumT s).size = strOfNums (halfL s) := by
  refine bytesOf_inj ?_
  rw [half_bytes, bytesOf_str]
  intro x hx
  simp only [halfL, List.mem_cons, List.not_mem_nil, or_false] at hx
  rcases hx with rfl | rfl <;> omega
def frameT (s : ByteArray) : ByteArray := strOfNums ((s.size : Int) :: halfL s) ++ s

theorem octets_l0 (l : List Int) (hl : l.length ≤ 2000000) (d : Nat) : ∀ (i : Nat) (acc : List Int), l.length - i = d → i ≤ l.length → acc.length + d ≤ 2000000 → Gets (fun k => impl_octets.l0 k acc l (l.length : Int) (i : Int)) (· = strOfNums (acc ++ (l.drop i).map (· % 256))) := by
  induction d with
  | zero =>
    intro i acc hd hi ha
    refine Gets.step (fun k => impl_octets.l0.eq_2 ..) (Gets.neg (by omega) (Gets.ret ?_))
    rw [List.drop_of_length_le (by omega)]
    simp
  | succ d ih =>
    intro i acc hd hi ha
    refine Gets.step (fun k => impl_octets.l0.eq_2 ..) (Gets.pos (by omega) (Gets.pos (by omega) (Gets.pos (by omega) (Gets.pos (by omega) ?_))))
    rw [rd_get (by omega), wrapId (by omega) (by omega), drop_at l i (by omega)]
    simp only [Int.toNat_natCast]
    rw [show ((i : Int) + 1) = ((i + 1 : Nat) : Int) by omega]
    refine (ih (i + 1) (acc ++ [l[i] % 256]) (by omega) (by omega) (by simp; omega)).mono (fun r hr => ?_)
    rw [hr]; simp only [List.map_cons, List.append_assoc, List.singleton_append]
theorem octets (l : List Int) (hl : l.length ≤ 2000000) : Gets (fun k => impl_octets.f k l) (· = strOfNums (l.map (· % 256))) := by
  unfold impl_octets.f
  have h := octets_l0 l hl l.length 0 [] (by omega) (by omega) (by simp; omega)
  simpa using h

theorem implFrame (s : ByteArray) (hs : s.size ≤ 140737488351232) : Gets (fun k => impl_FrameOf.f k s) (fun r => (s.size ≤ 60 → r = (frameT s, true)) ∧ (60 < s.size → r = ((⟨#[]⟩ : ByteArray), false))) := by
  unfold impl_FrameOf.f
  refine Gets.ite (fun h => Gets.ret ⟨fun h1 => by omega, fun _ => rfl⟩) (fun h => ?_)
  refine Gets.bindE (octets _ (by simp)).ev (Gets.bindE (implHalf s hs).ev ?_)
  rw [half_str]
  have e : strOfNums (List.map (fun x => x % 256) [(s.size : Int)]) ++ strOfNums (halfL s) = strOfNums ((s.size : Int) :: halfL s) := by
    rw [str_app]; simp only [List.map_cons, List.map_nil, List.singleton_append]; rw [show (s.size : Int) % 256 = s.size by omega]
  rw [e]
  refine Gets.pos ?_ (Gets.pos ?_ (Gets.ret ⟨fun _ => rfl, fun h2 => by omega⟩))
  · simp only [strOfNums_size]; simp [halfL]
  · simp only [strOfNums_size]; simp [halfL]; omega

theorem bext2 (s : ByteArray) (i a b : Nat) (hb : i + b ≤ s.size) : (s.extract i s.size).extract a b = s.extract (i + a) (i + b) := by
  refine bytesOf_inj ?_
  rw [bytesOf_extract, bytesOf_extract, bytesOf_extract]
  have h := size_eq s
  rw [List.drop_take, List.drop_drop, List.take_take]
  congr 1
  omega
theorem bext_size (s : ByteArray) (a b : Nat) (hb : b ≤ s.size) : (s.extract a b).size = b - a := by
  rw [size_eq, bytesOf_extract]
  have h := size_eq s
  simp only [List.length_take, List.length_drop]
  omega
theorem bt_ext (s : ByteArray) (i : Nat) (h : i < s.size) : bt (s.extract i s.size) 0 = bt s (i : Int) := by
  rw [bt_getD, bt_getD, bytesOf_extract]
  have h1 := size_eq s
  simp only [List.getD_eq_getElem?_getD, Int.toNat_zero, Int.toNat_natCast]
  rw [List.getElem?_take_of_lt (by omega), List.getElem?_drop]
  simp
theorem bext_full (s : ByteArray) : s.extract 0 s.size = s := bytesOf_inj (by rw [bytesOf_extract]; have h := size_eq s; simp only [List.drop_zero, Nat.sub_zero]; rw [List.take_of_length_le (by omega)])
theorem bt_bd (s : ByteArray) (i : Int) : 0 ≤ bt s i ∧ bt s i < 256 := by
  rw [bt_getD, List.getD_eq_getElem?_getD]
  rcases h : (bytesOf s)[i.toNat]? with _ | x
  · simp
  · exact bytesOf_range (List.mem_of_getElem? h)
theorem emptyB {s : ByteArray} (h : s.size = 0) : s = (⟨#[]⟩ : ByteArray) := by
  refine bytesOf_inj ?_
  rw [bytesOf_empty]
  exact List.eq_nil_of_length_eq_zero (by rw [← size_eq]; exact h)
/-! ### the frames of a text, one after the other -/
def feedF : Nat → ByteArray → ByteArray × Bool × List ByteArray
  | 0, _ => ((⟨#[]⟩ : ByteArray), false, [])
  | d + 1, r =>
    if r.size = 0 then ((⟨#[]⟩ : ByteArray), false, [])
    else if bt r 0 > 60 then ((⟨#[]⟩ : ByteArray), true, [])
    else if (r.size : Int) < 3 + bt r 0 then (r, false, [])
    else if frameT (r.extract 3 (3 + (bt r 0).toNat)) = r.extract 0 (3 + (bt r 0).toNat) then
      ((feedF d (r.extract (3 + (bt r 0).toNat) r.size)).1, (feedF d (r.extract (3 + (bt r 0).toNat) r.size)).2.1, r.extract 3 (3 + (bt r 0).toNat) :: (feedF d (r.extract (3 + (bt r 0).toNat) r.size)).2.2)
    else ((⟨#[]⟩ : ByteArray), true, [])
theorem feedF_len (d : Nat) : ∀ r : ByteArray, r.size ≤ d → (feedF d r).2.2.length ≤ r.size := by
  induction d with
  | zero => intro r _; simp [feedF]
  | succ d ih =>
    intro r hr
    unfold feedF
    split
    · simp
    · split
      · simp
      · split
        · simp
        · split
          · have h1 := bt_bd r 0
            have h2 := bext_size r (3 + (bt r 0).toNat) r.size (by omega)
            have := ih (r.extract (3 + (bt r 0).toNat) r.size) (by omega)
            simp only [List.length_cons]
            omega
          · simp
theorem half_frame (r : ByteArray) (n : Nat) (hn : bt r 0 = n) (hr : 3 + n ≤ r.size) : ((sumT (r.extract 3 (3 + n))).extract 2 (sumT (r.extract 3 (3 + n))).size).toList = (r.extract 1 3).toList ↔ frameT (r.extract 3 (3 + n)) = r.extract 0 (3 + n) := by
  rw [toList_iff]
  have hs := size_eq r
  have hz : (r.extract 3 (3 + n)).size = n := by rw [bext_size _ _ _ (by omega)]; omega
  have hx : bytesOf (r.extract 1 3) = ((bytesOf r).drop 1).take 2 := by rw [bytesOf_extract]
  have hy : bytesOf (r.extract 0 (3 + n)) = (bytesOf r).take (3 + n) := by rw [bytesOf_extract]; simp
  have hw : bytesOf (r.extract 3 (3 + n)) = ((bytesOf r).drop 3).take n := by rw [bytesOf_extract]; congr 1; omega
  have hf : bytesOf (frameT (r.extract 3 (3 + n))) = (n : Int) :: (halfL (r.extract 3 (3 + n)) ++ ((bytesOf r).drop 3).take n) := by
    unfold frameT
    rw [bytesOf_app, bytesOf_str, hz, hw]
    · rfl
    · intro x hx
      simp only [halfL, List.mem_cons, List.not_mem_nil, or_false] at hx
      have := bt_bd r 0
      rcases hx with rfl | rfl | rfl <;> omega
  have hg := half_bytes (r.extract 3 (3 + n))
  rw [bt_getD] at hn
  constructor
  · intro h
    have h1 : halfL (r.extract 3 (3 + n)) = ((bytesOf r).drop 1).take 2 := by rw [← hg, h, hx]
    refine bytesOf_inj ?_
    rw [hf, h1, hy]
    generalize bytesOf r = L at *
    match L, hs, hn with
    | [], hs, _ => simp only [List.length_nil] at hs; omega
    | [_], hs, _ => simp only [List.length_cons, List.length_nil] at hs; omega
    | [_, _], hs, _ => simp only [List.length_cons, List.length_nil] at hs; omega
    | a :: b :: c :: L, hs, hn =>
      simp at hn
      rw [show 3 + n = n + 1 + 1 + 1 by omega]
      simp [hn]
  · intro h
    have h1 := congrArg bytesOf h
    rw [hf, hy] at h1
    refine bytesOf_inj ?_
    rw [hg, hx]
    generalize bytesOf r = L at *
    match L, hs, hn with
    | [], hs, _ => simp only [List.length_nil] at hs; omega
    | [_], hs, _ => simp only [List.length_cons, List.length_nil] at hs; omega
    | [_, _], hs, _ => simp only [List.length_cons, List.length_nil] at hs; omega
    | a :: b :: c :: L, hs, hn =>
      have e3 : List.take (3 + n) (a :: b :: c :: L) = a :: b :: c :: L.take n := by rw [show 3 + n = n + 1 + 1 + 1 by omega]; rfl
      rw [e3] at h1
      unfold halfL at h1 ⊢
      simp only [List.take_succ_cons, List.cons_append, List.nil_append, List.cons.injEq] at h1
      rw [h1.2.1, h1.2.2.1]
      rfl
theorem toList_nil : (⟨#[]⟩ : ByteArray).toList = ([] : List UInt8) := by rw [Lib.toList_data]
def feedTop (h : ByteArray) (c : Bool) (a : ByteArray) : ByteArray × Bool × List ByteArray :=
  if c = true ∨ h.size + a.size > 20000 then (h, c, []) else feedF (h.size + a.size) (h ++ a)
theorem feedTop_len (h : ByteArray) (c : Bool) (a : ByteArray) : (feedTop h c a).2.2.length ≤ 20000 := by
  unfold feedTop
  split
  · simp
  · have := feedF_len (h.size + a.size) (h ++ a) (by rw [size_app]; omega)
    rw [size_app] at this
    omega

theorem implFeed_l0 (d : Nat) : ∀ (r : ByteArray) (acc : List ByteArray), r.size ≤ d → r.size ≤ 20000 → acc.length + r.size ≤ 40000 → Gets (fun k => impl_FeedReader.l0 k r acc) (· = ((feedF d r).1, (feedF d r).2.1, acc ++ (feedF d r).2.2)) := by
  induction d with
  | zero =>
    intro r acc hd _ _
    refine Gets.step (fun k => impl_FeedReader.l0.eq_2 ..) (Gets.pos (by rw [emptyB (s := r) (by omega)]; exact toList_nil) (Gets.ret ?_))
    rw [emptyB (s := r) (by omega)]; simp [feedF]
  | succ d ih =>
    intro r acc hd h2 h3
    refine Gets.step (fun k => impl_FeedReader.l0.eq_2 ..) ?_
    unfold feedF
    by_cases h0 : r.size = 0
    · refine Gets.pos (by rw [emptyB h0]; exact toList_nil) (Gets.ret ?_)
      rw [if_pos h0, emptyB h0]; simp
    · have hne : ¬ r.toList = ([] : List UInt8) := by
        intro h
        have := (toList_iff r (⟨#[]⟩ : ByteArray)).1 (by rw [h]; exact toList_nil.symm)
        exact h0 (by rw [this]; rfl)
      rw [if_neg h0]
      have hb := bt_bd r 0
      refine Gets.neg hne (Gets.pos (by omega) ?_)
      rw [wrapId (x := bt r 0) (by omega) (by omega), wrapId (by omega) (by omega)]
      by_cases h5 : bt r 0 > 60
      · refine Gets.pos h5 (Gets.ret ?_)
        rw [if_pos h5]; simp
      · rw [if_neg h5]
        refine Gets.neg h5 ?_
        by_cases h6 : (r.size : Int) < 3 + bt r 0
        · refine Gets.pos h6 (Gets.ret ?_)
          rw [if_pos h6]; simp
        · rw [if_neg h6]
          obtain ⟨n, hn⟩ : ∃ n : Nat, bt r 0 = n := ⟨(bt r 0).toNat, by omega⟩
          have e1 : (3 + bt r 0).toNat = 3 + n := by omega
          have e2 : (bt r 0).toNat = n := by omega
          refine Gets.neg h6 (Gets.pos (by omega) (Gets.pos (by omega) ?_))
          rw [e1, e2]
          have hz : (r.extract 3 (3 + n)).size = n := by rw [bext_size _ _ _ (by omega)]; omega
          refine Gets.bindE (implHalf _ (by omega)).ev (Gets.pos (by decide) (Gets.pos (by omega) ?_))
          have hh := half_frame r n hn (by omega)
          by_cases h7 : frameT (r.extract 3 (3 + n)) = r.extract 0 (3 + n)
          · refine Gets.pos (hh.2 h7) (Gets.pos (by omega) (Gets.pos (by omega) ?_))
            rw [if_pos h7]
            have hw := bext_size r (3 + n) r.size (by omega)
            refine (ih (r.extract (3 + n) r.size) _ (by omega) (by omega) (by simp; omega)).mono (fun x hx => ?_)
            rw [hx]; simp
          · refine Gets.neg (fun h => h7 (hh.1 h)) (Gets.ret ?_)
            rw [if_neg h7]; simp
theorem implFeed (h : ByteArray) (c : Bool) (a : ByteArray) (hh : h.size ≤ 1048576) (ha : a.size ≤ 1048576) : Gets (fun k => impl_FeedReader.f k h c a) (· = feedTop h c a) := by
  unfold impl_FeedReader.f feedTop
  refine Gets.ite (fun hc => ?_) (fun hc => ?_)
  · rw [if_pos (Or.inl hc)]
    exact Gets.step (fun k => impl_FeedReader.j0.eq_2 ..) (Gets.pos rfl (Gets.ret rfl))
  · rw [wrapId (by omega) (by omega)]
    refine Gets.step (fun k => impl_FeedReader.j0.eq_2 ..) (Gets.ite (fun hd => ?_) (fun hd => ?_))
    · have := of_decide_eq_true hd
      rw [if_pos (Or.inr (by omega))]
      exact Gets.ret rfl
    · have hd : ¬ (h.size : Int) + a.size > 20000 := fun h1 => hd (decide_eq_true h1)
      rw [if_neg (by rintro (h1 | h1); exact hc h1; omega)]
      refine Gets.pos (by omega) ?_
      exact (implFeed_l0 (h.size + a.size) (h ++ a) [] (by rw [size_app]; omega) (by rw [size_app]; omega) (by rw [size_app]; simp; omega)).mono (fun x hx => by rw [hx]; simp)

def joinB (l : List ByteArray) : List Int := (l.map bytesOf).flatten
theorem joinB_app (a b : List ByteArray) : joinB (a ++ b) = joinB a ++ joinB b := by unfold joinB; rw [List.map_append, List.flatten_append]
theorem joinB_len (s : ByteArray) (l : List ByteArray) (hs : s ∈ l) : s.size ≤ (joinB l).length := by
  rw [size_eq]
  induction l with
  | nil => simp at hs
  | cons t l ih =>
    simp only [joinB, List.map_cons, List.flatten_cons, List.length_append]
    rcases List.mem_cons.1 hs with rfl | h
    · omega
    · have := ih h; simp only [joinB] at this; omega
theorem pieces_join (s : ByteArray) (l : List Int) : ∀ b : Int, 0 ≤ b → b ≤ s.size → (∀ x ∈ l, b ≤ x ∧ x ≤ s.size) → l.Pairwise (· < ·) → joinB (pieces s b l) = (bytesOf s).drop b.toNat := by
  have hz := size_eq s
  induction l with
  | nil =>
    intro b h0 h1 _ _
    simp only [pieces, joinB, List.map_cons, List.map_nil, List.flatten_cons, List.flatten_nil, List.append_nil, bytesOf_extract]
    rw [List.take_of_length_le (by simp; omega)]
  | cons k l ih =>
    intro b h0 h1 hb hp
    rw [List.pairwise_cons] at hp
    have hk := hb k (List.mem_cons_self ..)
    have h := ih k (by omega) hk.2 (fun x hx => ⟨by have := hp.1 x hx; omega, (hb x (List.mem_cons_of_mem _ hx)).2⟩) hp.2
    have e : joinB (pieces s b (k :: l)) = bytesOf (s.extract b.toNat k.toNat) ++ joinB (pieces s k l) := rfl
    rw [e, h, bytesOf_extract]
    have e2 : (bytesOf s).drop k.toNat = ((bytesOf s).drop b.toNat).drop (k.toNat - b.toNat) := by rw [List.drop_drop]; congr 1; omega
    rw [e2, List.take_append_drop]
theorem cutT_join (s : ByteArray) (l : List Int) : joinB (cutT s l) = bytesOf s := by
  unfold cutT
  obtain ⟨h1, h2⟩ := uniqS_ok (l.map (resC ((s.size : Int) + 1)))
  rw [pieces_join s _ 0 (by omega) (by omega) (fun x hx => ?_) h1]
  · simp
  · obtain ⟨p, _, rfl⟩ := List.mem_map.1 ((h2 x).1 hx)
    have := resC_bd p ((s.size : Int) + 1) (by omega)
    omega
theorem cutT_len (s : ByteArray) (l : List Int) : (cutT s l).length ≤ l.length + 1 ∧ 1 ≤ (cutT s l).length := by
  unfold cutT
  rw [pieces_len]
  have h3 := Lib.compact_length_le ((l.map (resC ((s.size : Int) + 1))).mergeSort fun x y => decide (x ≤ y))
  rw [List.length_mergeSort, List.length_map] at h3
  unfold uniqS; omega

theorem frame_bytes (t : ByteArray) (ht : t.size ≤ 60) : bytesOf (frameT t) = (t.size : Int) :: (halfL t ++ bytesOf t) := by
  unfold frameT
  rw [bytesOf_app, bytesOf_str]
  · rfl
  · intro x hx
    simp only [halfL, List.mem_cons, List.not_mem_nil, or_false] at hx
    rcases hx with rfl | rfl | rfl <;> omega
theorem frame_len (t : ByteArray) (ht : t.size ≤ 60) : (bytesOf (frameT t)).length = 3 + t.size := by
  have := size_eq t
  rw [frame_bytes t ht]; simp [halfL]; omega
/-- What is left of a text when no whole frame begins it. -/
def Inc (r : ByteArray) : Prop := r.size = 0 ∨ (r.size : Int) < 3 + bt r 0
theorem bt_head (B : ByteArray) (x : Int) (L X : List Int) (h : bytesOf B ++ X = x :: L) (hB : 0 < B.size) : bt B 0 = x := by
  rw [bt_getD]
  have hz := size_eq B
  cases hb : bytesOf B with
  | nil => rw [hb, List.length_nil] at hz; omega
  | cons a M => rw [hb] at h; simp at h; simp [h.1]
theorem feedS (d : Nat) : ∀ (B : ByteArray) (U : List ByteArray) (X : List Int), B.size ≤ d → (∀ t ∈ U, t.size ≤ 60) → bytesOf B ++ X = joinB (U.map frameT) → ∃ U', U = (feedF d B).2.2 ++ U' ∧ (feedF d B).2.1 = false ∧ bytesOf (feedF d B).1 ++ X = joinB (U'.map frameT) ∧ Inc (feedF d B).1 := by
  induction d with
  | zero =>
    intro B U X hd hU h
    rw [emptyB (s := B) (by omega)] at h
    exact ⟨U, rfl, rfl, h, .inl rfl⟩
  | succ d ih =>
    intro B U X hd hU h
    unfold feedF
    have hz := size_eq B
    by_cases h0 : B.size = 0
    · rw [if_pos h0]
      rw [emptyB h0] at h
      exact ⟨U, rfl, rfl, h, .inl rfl⟩
    · rw [if_neg h0]
      cases U with
      | nil =>
        have h1 := congrArg List.length h
        rw [List.length_append] at h1
        have h2 : (joinB (([] : List ByteArray).map frameT)).length = 0 := rfl
        omega
      | cons t U =>
        have ht := hU t (List.mem_cons_self ..)
        have hfb := frame_bytes t ht
        have hfl := frame_len t ht
        have hj : joinB ((t :: U).map frameT) = bytesOf (frameT t) ++ joinB (U.map frameT) := rfl
        rw [hj] at h
        have hb : bt B 0 = t.size := bt_head B _ _ X (by rw [h, hfb]; rfl) (by omega)
        rw [if_neg (by omega)]
        by_cases h2 : (B.size : Int) < 3 + bt B 0
        · rw [if_pos h2]
          exact ⟨t :: U, rfl, rfl, by rw [hj]; exact h, .inr h2⟩
        · rw [if_neg h2]
          have e1 : (bt B 0).toNat = t.size := by omega
          rw [e1]
          have h3 : (bytesOf B).take (3 + t.size) = bytesOf (frameT t) := by
            have h4 := congrArg (List.take (3 + t.size)) h
            rw [List.take_append_of_le_length (by omega), ← hfl, List.take_left] at h4
            rw [hfl] at h4
            exact h4
          have h5 : (bytesOf B).drop (3 + t.size) ++ X = joinB (U.map frameT) := by
            have h4 := congrArg (List.drop (3 + t.size)) h
            rw [List.drop_append_of_le_length (by omega), ← hfl, List.drop_left] at h4
            rw [hfl] at h4
            exact h4
          have f0 : B.extract 0 (3 + t.size) = frameT t := bytesOf_inj (by rw [bytesOf_extract]; simp only [List.drop_zero, Nat.sub_zero]; exact h3)
          have f1 : B.extract 3 (3 + t.size) = t := by
            refine bytesOf_inj ?_
            rw [bytesOf_extract]
            have h6 : ((bytesOf B).drop 3).take (3 + t.size - 3) = ((bytesOf B).take (3 + t.size)).drop 3 := by rw [List.drop_take]
            rw [h6, h3, hfb]
            simp [halfL]
          rw [f0, f1, if_pos rfl]
          have f2 : bytesOf (B.extract (3 + t.size) B.size) = (bytesOf B).drop (3 + t.size) := by
            rw [bytesOf_extract, List.take_of_length_le (by rw [List.length_drop]; omega)]
          have f3 := bext_size B (3 + t.size) B.size (by omega)
          obtain ⟨U', g1, g2, g3, g4⟩ := ih (B.extract (3 + t.size) B.size) U X (by omega) (fun u hu => hU u (List.mem_cons_of_mem _ hu)) (by rw [f2]; exact h5)
          refine ⟨U', ?_, g2, g3, g4⟩
          simp only [List.cons_append, List.cons.injEq, true_and]
          exact g1
theorem feed_end (r : ByteArray) (U : List ByteArray) (hU : ∀ t ∈ U, t.size ≤ 60) (h : bytesOf r = joinB (U.map frameT)) (hi : Inc r) : U = [] ∧ r = (⟨#[]⟩ : ByteArray) := by
  cases U with
  | nil => exact ⟨rfl, bytesOf_inj (by rw [h]; rfl)⟩
  | cons t U =>
    exfalso
    have ht := hU t (List.mem_cons_self ..)
    have hfb := frame_bytes t ht
    have hfl := frame_len t ht
    have hj : joinB ((t :: U).map frameT) = bytesOf (frameT t) ++ joinB (U.map frameT) := rfl
    have hz := size_eq r
    rw [hj] at h
    have hl := congrArg List.length h
    rw [List.length_append, hfl] at hl
    have hb : bt r 0 = t.size := bt_head r _ _ [] (by rw [List.append_nil, h, hfb]; rfl) (by omega)
    rcases hi with hi | hi <;> omega
theorem feedTop_join (r p : ByteArray) (U : List ByteArray) (X : List Int) (hs : r.size + p.size ≤ 20000) (hU : ∀ t ∈ U, t.size ≤ 60) (h : bytesOf r ++ (bytesOf p ++ X) = joinB (U.map frameT)) : ∃ U', U = (feedTop r false p).2.2 ++ U' ∧ (feedTop r false p).2.1 = false ∧ bytesOf (feedTop r false p).1 ++ X = joinB (U'.map frameT) ∧ Inc (feedTop r false p).1 := by
  unfold feedTop
  rw [if_neg (by simp; omega)]
  exact feedS _ (r ++ p) U X (by rw [size_app]; omega) hU (by rw [bytesOf_app, List.append_assoc]; exact h)

/-! ### the reader of draws: it always answers -/
theorem and_i64 (x : Int) (m : Nat) (hm : m < 9223372036854775808) : 0 ≤ Go.bits .and .i64 x (m : Int) ∧ Go.bits .and .i64 x (m : Int) ≤ (m : Int) := by
  have h1 : (BitVec.ofInt IntKind.i64.bits x &&& BitVec.ofInt IntKind.i64.bits (m : Int)).toNat ≤ m := by
    rw [BitVec.toNat_and]
    refine Nat.le_trans Nat.and_le_right ?_
    rw [BitVec.ofInt_natCast, BitVec.toNat_ofNat]
    exact Nat.mod_le _ _
  unfold Go.bits
  simp only [IntKind.wrap_i64]
  omega
theorem and255 (x : Int) : 0 ≤ Go.bits .and .i64 x 255 ∧ Go.bits .and .i64 x 255 < 256 := by
  have h := and_i64 x 255 (by decide)
  rw [show ((255 : Nat) : Int) = 255 from rfl] at h
  omega
theorem wrap_bd (x : Int) : -9223372036854775808 ≤ wrap64 x ∧ wrap64 x ≤ 9223372036854775807 := by unfold wrap64; omega
theorem dByte (l : List Int) (p z : Int) (hl : l.length ≤ 1048576) (hp : 0 ≤ p ∧ p ≤ l.length) : ∃ v p' z', spec_l01Byte.f l p z = some (v, p', z') ∧ (0 ≤ v ∧ v < 256) ∧ 0 ≤ p' ∧ p' ≤ l.length := by
  unfold spec_l01Byte.f
  by_cases h : p < (l.length : Int)
  · rw [if_pos h, if_pos hp.1]
    refine ⟨_, _, _, rfl, and255 _, ?_⟩
    rw [wrapId (by omega) (by omega)]; omega
  · rw [if_neg h]
    exact ⟨_, _, _, rfl, and255 _, hp⟩
theorem dBelow (l : List Int) (p z n : Int) (hl : l.length ≤ 1048576) (hp : 0 ≤ p ∧ p ≤ l.length) (hn : 0 < n) : ∃ v p' z', spec_l01Below.f l p z n = some (v, p', z') ∧ (0 ≤ v ∧ v < n) ∧ 0 ≤ p' ∧ p' ≤ l.length := by
  unfold spec_l01Below.f
  rw [if_neg (by omega)]
  by_cases h : n ≤ 256
  · rw [if_pos h]
    obtain ⟨v, p1, z1, e1, hv, hp1⟩ := dByte l p z hl hp
    rw [e1]
    simp only [Option.bind_some]
    rw [if_neg (by omega)]
    refine ⟨_, _, _, rfl, ?_, hp1⟩
    rw [tmod_nn hv.1]
    exact ⟨Int.emod_nonneg _ (by omega), Int.emod_lt_of_pos _ hn⟩
  · rw [if_neg h]
    obtain ⟨v1, p1, z1, e1, hv1, hp1⟩ := dByte l p z hl hp
    rw [e1]
    simp only [Option.bind_some]
    obtain ⟨v2, p2, z2, e2, hv2, hp2⟩ := dByte l p1 z1 hl hp1
    rw [e2]
    simp only [Option.bind_some]
    obtain ⟨v3, p3, z3, e3, hv3, hp3⟩ := dByte l p2 z2 hl hp2
    rw [e3]
    simp only [Option.bind_some]
    obtain ⟨v4, p4, z4, e4, hv4, hp4⟩ := dByte l p3 z3 hl hp3
    rw [e4]
    simp only [Option.bind_some]
    rw [if_neg (by omega)]
    refine ⟨_, _, _, rfl, ?_, hp4⟩
    rw [wrapId (x := v1 * 16777216) (by omega) (by omega), wrapId (x := v2 * 65536) (by omega) (by omega), wrapId (x := v1 * 16777216 + v2 * 65536) (by omega) (by omega), wrapId (x := v3 * 256) (by omega) (by omega), wrapId (x := v1 * 16777216 + v2 * 65536 + v3 * 256) (by omega) (by omega), wrapId (by omega) (by omega), tmod_nn (by omega)]
    exact ⟨Int.emod_nonneg _ (by omega), Int.emod_lt_of_pos _ hn⟩
theorem dNew_l0 (l : List Int) (hl : l.length ≤ 1048576) (d : Nat) : ∀ (i : Nat) (h : Int), l.length - i = d → i ≤ l.length → Gets (fun k => spec_l01New.l0 k l h (i : Int)) (fun r => r.1 = l ∧ r.2.1 = 0) := by
  induction d with
  | zero =>
    intro i h hd hi
    exact Gets.step (fun k => spec_l01New.l0.eq_2 ..) (Gets.neg (by omega) (Gets.ret ⟨rfl, rfl⟩))
  | succ d ih =>
    intro i h hd hi
    refine Gets.step (fun k => spec_l01New.l0.eq_2 ..) (Gets.pos (by omega) (Gets.ite (fun _ => Gets.pos (by omega) ?_) (fun _ => Gets.ret ⟨rfl, rfl⟩)))
    rw [wrapId (x := (i : Int) + 1) (by omega) (by omega), show ((i : Int) + 1) = ((i + 1 : Nat) : Int) by omega]
    exact ih (i + 1) _ (by omega) (by omega)
theorem dNew (l : List Int) (hl : l.length ≤ 1048576) : Gets (fun k => spec_l01New.f k l) (fun r => r.1 = l ∧ r.2.1 = 0) := by
  unfold spec_l01New.f
  exact dNew_l0 l hl _ 0 _ rfl (by omega)

theorem dText_l0 (l : List Int) (hl : l.length ≤ 1048576) (n : Int) (hn : n ≤ 5000) (d : Nat) : ∀ (i : Nat) (acc : List Int) (p z : Int), (n - i).toNat = d → acc.length = i → (0 ≤ p ∧ p ≤ l.length) → Gets (fun k => spec_l01Text.l0 k n acc (i : Int) l p z) (fun r => r.1.size = max i n.toNat ∧ 0 ≤ r.2.1 ∧ r.2.1 ≤ l.length) := by
  induction d with
  | zero =>
    intro i acc p z hd ha hp
    refine Gets.step (fun k => spec_l01Text.l0.eq_2 ..) (Gets.neg (by omega) (Gets.ret ⟨?_, hp⟩))
    show (strOfNums acc).size = _
    rw [strOfNums_size]; omega
  | succ d ih =>
    intro i acc p z hd ha hp
    refine Gets.step (fun k => spec_l01Text.l0.eq_2 ..) (Gets.pos (by omega) ?_)
    obtain ⟨v, p', z', e, hv, hp'⟩ := dByte l p z hl hp
    simp only [e, Option.bind_some]
    refine Gets.pos (by omega) ?_
    rw [wrapId (x := (i : Int) + 1) (by omega) (by omega), show ((i : Int) + 1) = ((i + 1 : Nat) : Int) by omega]
    exact (ih (i + 1) _ p' z' (by omega) (by simp; omega) hp').mono (fun r hr => ⟨by omega, hr.2⟩)
theorem dText (l : List Int) (p z n : Int) (hl : l.length ≤ 1048576) (hp : 0 ≤ p ∧ p ≤ l.length) (hn : 0 ≤ n ∧ n ≤ 5000) : Gets (fun k => spec_l01Text.f k l p z n) (fun r => r.1.size = n.toNat ∧ 0 ≤ r.2.1 ∧ r.2.1 ≤ l.length) := by
  unfold spec_l01Text.f
  refine Gets.neg (by omega) (Gets.step (fun k => spec_l01Text.j0.eq_2 ..) ?_)
  exact (dText_l0 l hl n (by omega) _ 0 [] p z rfl rfl hp).mono (fun r hr => ⟨by omega, hr.2⟩)

theorem dTexts_l0 (l : List Int) (hl : l.length ≤ 1048576) (d : Nat) : ∀ (i : Nat) (acc : List ByteArray) (p z : Int), 9 - i = d → acc.length ≤ i → i ≤ 9 → (∀ t ∈ acc, t.size ≤ 11) → (0 ≤ p ∧ p ≤ l.length) → Gets (fun k => spec_DrawTexts.l0 k acc (i : Int) l p z) (fun r => r.length ≤ 9 ∧ ∀ t ∈ r, t.size ≤ 11) := by
  induction d with
  | zero =>
    intro i acc p z hd ha hi hm hp
    refine Gets.step (fun k => spec_DrawTexts.l0.eq_2 ..) ?_
    obtain ⟨v, p', z', e, hv, hp'⟩ := dBelow l p z 9 hl hp (by omega)
    simp only [e, Option.bind_some]
    exact Gets.neg (by omega) (Gets.ret ⟨by omega, hm⟩)
  | succ d ih =>
    intro i acc p z hd ha hi hm hp
    refine Gets.step (fun k => spec_DrawTexts.l0.eq_2 ..) ?_
    obtain ⟨v, p', z', e, hv, hp'⟩ := dBelow l p z 9 hl hp (by omega)
    simp only [e, Option.bind_some]
    refine Gets.ite (fun h => ?_) (fun h => Gets.ret ⟨by omega, hm⟩)
    obtain ⟨v2, p2, z2, e2, hv2, hp2⟩ := dBelow l p' z' 12 hl hp' (by omega)
    simp only [e2, Option.bind_some]
    refine Gets.bind (dText l p2 z2 v2 hl hp2 (by omega)) (fun t ht => Gets.pos (by omega) ?_)
    rw [wrapId (x := (i : Int) + 1) (by omega) (by omega), show ((i : Int) + 1) = ((i + 1 : Nat) : Int) by omega]
    refine ih (i + 1) _ t.2.1 t.2.2 (by omega) (by simp; omega) (by omega) (fun u hu => ?_) ht.2
    rcases List.mem_append.1 hu with h1 | h1
    · exact hm u h1
    · rw [List.mem_singleton.1 h1, ht.1]; omega
theorem dTexts (l : List Int) (hl : l.length ≤ 1048576) : Gets (fun k => spec_DrawTexts.f k l) (fun r => r.length ≤ 9 ∧ ∀ t ∈ r, t.size ≤ 11) := by
  unfold spec_DrawTexts.f
  refine Gets.bind (dNew l hl) (fun c hc => ?_)
  obtain ⟨c1, c2, c3⟩ := c
  obtain ⟨h1, h2⟩ := hc
  simp only at h1 h2
  subst h1 h2
  exact dTexts_l0 c1 hl _ 0 [] 0 c3 rfl (by simp) (by omega) (by simp) (by omega)

theorem dPlaces_l0 (l : List Int) (hl : l.length ≤ 1048576) (d : Nat) : ∀ (i : Nat) (acc : List Int) (p z : Int), 12 - i = d → acc.length = i → i ≤ 12 → (∀ x ∈ acc, 0 ≤ x ∧ x < 10000) → (0 ≤ p ∧ p ≤ l.length) → Gets (fun k => spec_DrawPlaces.l0 k acc (i : Int) l p z) (fun r => r.length = 12 ∧ ∀ x ∈ r, 0 ≤ x ∧ x < 10000) := by
  induction d with
  | zero =>
    intro i acc p z hd ha hi hm hp
    exact Gets.step (fun k => spec_DrawPlaces.l0.eq_2 ..) (Gets.neg (by omega) (Gets.ret ⟨by omega, hm⟩))
  | succ d ih =>
    intro i acc p z hd ha hi hm hp
    refine Gets.step (fun k => spec_DrawPlaces.l0.eq_2 ..) (Gets.pos (by omega) ?_)
    obtain ⟨v, p', z', e, hv, hp'⟩ := dBelow l p z 10000 hl hp (by omega)
    simp only [e, Option.bind_some]
    refine Gets.pos (by omega) ?_
    rw [wrapId (x := (i : Int) + 1) (by omega) (by omega), show ((i : Int) + 1) = ((i + 1 : Nat) : Int) by omega]
    refine ih (i + 1) _ p' z' (by omega) (by simp; omega) (by omega) (fun u hu => ?_) hp'
    rcases List.mem_append.1 hu with h1 | h1
    · exact hm u h1
    · rw [List.mem_singleton.1 h1]; exact hv
theorem dPlaces (l : List Int) (hl : l.length ≤ 1048576) : Gets (fun k => spec_DrawPlaces.f k l) (fun r => r.length = 12 ∧ ∀ x ∈ r, 0 ≤ x ∧ x < 10000) := by
  unfold spec_DrawPlaces.f
  refine Gets.bind (dNew l hl) (fun c hc => ?_)
  obtain ⟨c1, c2, c3⟩ := c
  obtain ⟨h1, h2⟩ := hc
  simp only at h1 h2
  subst h1 h2
  obtain ⟨v, p, z, e, hv, hp⟩ := dByte c1 0 c3 hl (by omega)
  simp only [e, Option.bind_some]
  exact dPlaces_l0 c1 hl _ 0 [] p z rfl rfl (by omega) (by simp) hp

theorem sameTexts_l0 (a b : List ByteArray) (ha : a.length ≤ 35184372088832) (hab : a.length = b.length) (d : Nat) : ∀ i : Nat, a.length - i = d → i ≤ a.length → Gets (fun k => laws_sameTexts.l0 k a b (i : Int)) (fun r => r = true ↔ a.drop i = b.drop i) := by
  induction d with
  | zero =>
    intro i hd hi
    refine Gets.step (fun k => laws_sameTexts.l0.eq_2 ..) (Gets.neg (by omega) (Gets.ret ?_))
    rw [List.drop_of_length_le (by omega), List.drop_of_length_le (by omega)]
    simp
  | succ d ih =>
    intro i hd hi
    refine Gets.step (fun k => laws_sameTexts.l0.eq_2 ..) (Gets.pos (by omega) (Gets.pos (by omega) (Gets.pos (by omega) ?_)))
    have e1 : rdOf ByteArray.empty a (i : Int) = a[i] := rdS_get (by omega)
    have e2 : rdOf ByteArray.empty b (i : Int) = b[i] := rdS_get (by omega)
    simp only [e1, e2]
    rw [wrapId (by omega) (by omega), drop_at a i (by omega), drop_at b i (by omega)]
    refine Gets.ite (fun h => ?_) (fun h => Gets.ret ?_)
    · rw [show ((i : Int) + 1) = ((i + 1 : Nat) : Int) by omega]
      refine (ih (i + 1) (by omega) (by omega)).mono (fun r hr => ?_)
      rw [hr]
      simp only [List.cons.injEq, (toList_iff _ _).1 h, true_and]
    · have hne : ¬ a[i] = b[i] := fun e => h (by rw [e])
      simp only [List.cons.injEq, hne, false_and, Bool.false_eq_true]
theorem sameTexts_true (a : List ByteArray) (ha : a.length ≤ 35184372088832) : Gets (fun k => laws_sameTexts.f k a a) (· = true) := by
  unfold laws_sameTexts.f
  exact Gets.pos rfl ((sameTexts_l0 a a ha rfl a.length 0 (by omega) (by omega)).mono (fun r hr => hr.2 rfl))

theorem frames_l1 (T : List ByteArray) (S : ByteArray) (P : List ByteArray) (hT : ∀ t ∈ T, t.size ≤ 60) (hT9 : T.length ≤ 9) (hS : S.size ≤ 20000) (hP : P.length ≤ 20) (hj : joinB P = bytesOf S) (d : Nat) : ∀ (i : Nat) (acc : ByteArray) (outs : List ByteArray) (r : ByteArray) (U : List ByteArray), P.length - i = d → i ≤ P.length → bytesOf acc = joinB (P.take i) → T = outs ++ U → bytesOf r ++ joinB (P.drop i) = joinB (U.map frameT) → Inc r → r.size ≤ acc.size → Gets (fun k => laws_FnFrames.l1 k T S P acc outs (i : Int) r false) (· = true) := by
  have hSz := size_eq S
  induction d with
  | zero =>
    intro i acc outs r U hd hi ha ho hr hI hra
    rw [List.take_of_length_le (by omega), hj] at ha
    rw [List.drop_of_length_le (by omega)] at hr
    have hU : ∀ t ∈ U, t.size ≤ 60 := fun t ht => hT t (by rw [ho]; exact List.mem_append_right _ ht)
    obtain ⟨rfl, rfl⟩ := feed_end r U hU (by simpa [joinB] using hr) hI
    rw [List.append_nil] at ho
    subst ho
    refine Gets.step (fun k => laws_FnFrames.l1.eq_2 ..) (Gets.neg (by omega) (Gets.pos (by rw [bytesOf_inj ha]) (Gets.neg (by simp) (Gets.pos toList_nil ?_))))
    exact Gets.bindE (sameTexts_true _ (by omega)).ev (Gets.ret rfl)
  | succ d ih =>
    intro i acc outs r U hd hi ha ho hr hI hra
    have hil : i < P.length := by omega
    have e1 : rdOf ByteArray.empty P (i : Int) = P[i] := rdS_get (by simpa using hil)
    have hU : ∀ t ∈ U, t.size ≤ 60 := fun t ht => hT t (by rw [ho]; exact List.mem_append_right _ ht)
    have h9 : joinB (P.take (i + 1)) = bytesOf acc ++ bytesOf P[i] := by
      rw [List.take_succ_eq_append_getElem hil, joinB_app, ha]; simp [joinB]
    have hz : acc.size + P[i].size ≤ S.size := by
      have h8 : (joinB (P.take (i + 1))).length ≤ (joinB P).length := by
        have e : joinB P = joinB (P.take (i + 1)) ++ joinB (P.drop (i + 1)) := by rw [← joinB_app, List.take_append_drop]
        rw [e, List.length_append]; omega
      rw [h9, hj, List.length_append, ← size_eq, ← size_eq, ← size_eq] at h8
      exact h8
    have h10 : joinB (P.drop i) = bytesOf P[i] ++ joinB (P.drop (i + 1)) := by rw [drop_at P i hil]; rfl
    rw [h10] at hr
    obtain ⟨U', g1, g2, g3, g4⟩ := feedTop_join r P[i] U _ (by omega) hU hr
    refine Gets.step (fun k => laws_FnFrames.l1.eq_2 ..) (Gets.pos (by omega) (Gets.pos (by omega) ?_))
    simp only [e1]
    refine Gets.pos (by omega) (Gets.bindE (implFeed r false P[i] (by omega) (by omega)).ev ?_)
    have hol : outs.length + U.length ≤ 9 := by rw [ho, List.length_append] at hT9; omega
    have hfl : (feedTop r false P[i]).2.2.length ≤ U.length := by rw [g1, List.length_append]; omega
    refine Gets.pos (by omega) ?_
    rw [g2, wrapId (x := (i : Int) + 1) (by omega) (by omega), show ((i : Int) + 1) = ((i + 1 : Nat) : Int) by omega]
    refine ih (i + 1) _ _ _ U' (by omega) (by omega) (by rw [bytesOf_app, h9]) (by rw [ho, List.append_assoc, ← g1]) g3 g4 ?_
    have h11 := congrArg List.length g3
    have h12 := congrArg List.length hr
    have h13 : (joinB (U'.map frameT)).length ≤ (joinB (U.map frameT)).length := by
      rw [g1, List.map_append, joinB_app, List.length_append]; omega
    simp only [List.length_append, ← size_eq] at h11 h12
    rw [size_app]; omega
theorem frames_l0 (c : List Int) (hc : c.length ≤ 1048576) (T : List ByteArray) (hT : ∀ t ∈ T, t.size ≤ 11) (hT9 : T.length ≤ 9) (d : Nat) : ∀ (i : Nat) (acc : ByteArray), T.length - i = d → i ≤ T.length → bytesOf acc = joinB ((T.take i).map frameT) → acc.size ≤ 14 * i → Gets (fun k => laws_FnFrames.l0 k c T acc (i : Int)) (· = true) := by
  have hT60 : ∀ t ∈ T, t.size ≤ 60 := fun t ht => Nat.le_trans (hT t ht) (by omega)
  induction d with
  | zero =>
    intro i acc hd hi ha hz
    rw [List.take_of_length_le (by omega)] at ha
    refine Gets.step (fun k => laws_FnFrames.l0.eq_2 ..) (Gets.neg (by omega) ?_)
    refine Gets.bind (dPlaces c hc) (fun p hp => Gets.bindE (implCut acc p (by omega) (by omega)).ev ?_)
    have hl := cutT_len acc p
    exact frames_l1 T acc _ hT60 hT9 (by omega) (by omega) (cutT_join acc p) _ 0 _ [] _ T rfl (by omega) (by simp [joinB, bytesOf_empty]) rfl (by rw [bytesOf_empty, List.nil_append, List.drop_zero, cutT_join, ha]) (.inl rfl) (by simp)
  | succ d ih =>
    intro i acc hd hi ha hz
    have hil : i < T.length := by omega
    have e1 : rdOf ByteArray.empty T (i : Int) = T[i] := rdS_get (by simpa using hil)
    have ht := hT T[i] (List.getElem_mem hil)
    have hfl := frame_len T[i] (by omega)
    rw [← size_eq] at hfl
    refine Gets.step (fun k => laws_FnFrames.l0.eq_2 ..) (Gets.pos (by omega) (Gets.pos (by omega) ?_))
    simp only [e1]
    refine Gets.bind (implFrame T[i] (by omega)) (fun f hf => ?_)
    rw [hf.1 (by omega)]
    dsimp only
    refine Gets.pos rfl (Gets.pos (by omega) ?_)
    rw [wrapId (x := (i : Int) + 1) (by omega) (by omega), show ((i : Int) + 1) = ((i + 1 : Nat) : Int) by omega]
    refine ih (i + 1) _ (by omega) (by omega) ?_ (by rw [size_app]; omega)
    rw [bytesOf_app, ha, List.take_succ_eq_append_getElem hil, List.map_append, joinB_app]; simp [joinB]
theorem FnFrames : Stat.FnFrames := by
  intro l _
  refine Gets.rounds ?_
  unfold laws_FnFrames.f laws_big.f
  simp only [Option.bind_some]
  refine Gets.ite (fun _ => Gets.ret rfl) (fun h => ?_)
  have hl : l.length ≤ 1048576 := by
    rcases Nat.lt_or_ge 1048576 l.length with h1 | h1
    · exact absurd (decide_eq_true (by omega)) h
    · exact h1
  refine Gets.bind (dTexts l hl) (fun T hT => ?_)
  exact frames_l0 l hl T hT.2 hT.1 _ 0 _ rfl (by omega) (by simp [joinB, bytesOf_empty]) (Nat.le_refl 0)

end Go.Proofs.Ytlnmiafahjddhad.Pure
