/- The program's Missing and the reference's answer alike at every list of items and number; the list stays as it was, and the answer is new memory. -/
import Derived.Test.YtlnmiafahjddhabStatFnExactMissing
import Derived.Lib.Strings
set_option linter.unusedVariables false
set_option linter.unusedSimpArgs false
namespace Go.Proofs.Ytlnmiafahjddhab.Pure
open Go.RowKit Go.Proofs.Ytlnmiafahjddhab.PFnExactMissing Go.Proofs.YtlnmiafahjddhabW.PrintWords Go.Proofs.YtlnmiafahjddhabW.PrintLast

/-! ### plain words: from some number of rounds on -/
def Gets {α : Type} (f : Nat → Option α) (Q : α → Prop) : Prop := ∃ r, Ev f r ∧ Q r
theorem Gets.ret {α : Type} {Q : α → Prop} {r : α} (h : Q r) : Gets (fun _ => some r) Q := ⟨r, Ev.now r, h⟩
theorem Gets.none {α : Type} {Q : α → Prop} (h : False) : Gets (fun _ => (Option.none : Option α)) Q := h.elim
theorem Gets.step {α : Type} {g f : Nat → Option α} {Q : α → Prop} (h : ∀ k, g (k + 1) = f k) (k : Gets f Q) : Gets g Q := by
  obtain ⟨r, hr, hq⟩ := k
  exact ⟨r, Ev.step h hr, hq⟩
theorem Ev.ite {α : Type} {c : Prop} [Decidable c] {f g : Nat → Option α} {r : α} (h : c → Ev f r) (k : ¬ c → Ev g r) : Ev (fun n => if c then f n else g n) r := by
  by_cases hc : c
  · simp only [hc, if_true]; exact h hc
  · simp only [hc, if_false]; exact k hc
theorem Gets.ite {α : Type} {c : Prop} [Decidable c] {f g : Nat → Option α} {Q : α → Prop} (h : c → Gets f Q) (k : ¬ c → Gets g Q) : Gets (fun n => if c then f n else g n) Q := by
  by_cases hc : c
  · simp only [hc, if_true]; exact h hc
  · simp only [hc, if_false]; exact k hc
theorem Gets.pos {α : Type} {c : Prop} [Decidable c] {f g : Nat → Option α} {Q : α → Prop} (hc : c) (h : Gets f Q) : Gets (fun n => if c then f n else g n) Q := by
  simp only [hc, if_true]; exact h
theorem Gets.neg {α : Type} {c : Prop} [Decidable c] {f g : Nat → Option α} {Q : α → Prop} (hc : ¬ c) (h : Gets g Q) : Gets (fun n => if c then f n else g n) Q := by
  simp only [hc, if_false]; exact h
theorem Gets.bind {α β : Type} {g : Nat → Option α} {f : Nat → α → Option β} {P : α → Prop} {Q : β → Prop} (h : Gets g P) (k : ∀ a, P a → Gets (fun n => f n a) Q) : Gets (fun n => (g n).bind (f n)) Q := by
  obtain ⟨a, ha, hp⟩ := h
  obtain ⟨r, hr, hq⟩ := k a hp
  exact ⟨r, Ev.bind ha hr, hq⟩
theorem Gets.bindE {α β : Type} {g : Nat → Option α} {f : Nat → α → Option β} {a : α} {Q : β → Prop} (h : Ev g a) (k : Gets (fun n => f n a) Q) : Gets (fun n => (g n).bind (f n)) Q := by
  obtain ⟨r, hr, hq⟩ := k
  exact ⟨r, Ev.bind h hr, hq⟩
theorem Gets.mono {α : Type} {f : Nat → Option α} {P Q : α → Prop} (h : Gets f P) (k : ∀ a, P a → Q a) : Gets f Q := by
  obtain ⟨r, hr, hp⟩ := h
  exact ⟨r, hr, k r hp⟩
theorem Gets.rounds {α : Type} {f : Nat → Option α} {r : α} (h : Gets f (· = r)) : ∃ k, f k = some r := by
  obtain ⟨a, ha, rfl⟩ := h
  exact ha.rounds
theorem Gets.ev {α : Type} {f : Nat → Option α} {r : α} (h : Gets f (· = r)) : Ev f r := by
  obtain ⟨a, ha, rfl⟩ := h
  exact ha
theorem Ev.gets {α : Type} {f : Nat → Option α} {r : α} {Q : α → Prop} (h : Ev f r) (hq : Q r) : Gets f Q := ⟨r, h, hq⟩
theorem Gets.same {α : Type} {o : Option α} {Q : α → Prop} {r : α} (h : o = some r) (hq : Q r) : Gets (fun _ => o) Q := by
  subst h; exact Gets.ret hq
theorem wrapId {x : Int} (h0 : -9223372036854775808 ≤ x) (h1 : x ≤ 9223372036854775807) : wrap64 x = x := by
  unfold wrap64; omega
theorem i64_bd {n : Int} (h : (Lit.int .i64 n).wf = true) : -9223372036854775808 ≤ n ∧ n ≤ 9223372036854775807 := by
  have hm : IntKind.i64.min = -9223372036854775808 := rfl
  simp [Lit.wf, hm] at h
  exact h
theorem boolEq {a b : Bool} {P Q : Prop} (ha : a = true ↔ P) (hb : b = true ↔ Q) (h : P ↔ Q) : a = b := by
  rw [Bool.eq_iff_iff, ha, hb, h]
theorem tmod_nn {a b : Int} (h : 0 ≤ a) : Int.tmod a b = a % b := Int.tmod_eq_emod_of_nonneg h
theorem tdiv_nn {a b : Int} (h : 0 ≤ a) : Int.tdiv a b = a / b := Int.tdiv_eq_ediv_of_nonneg h

/-! ### rows of numbers -/
theorem rd_get {l : List Int} {i : Int} (h : i.toNat < l.length) : rd l i = l[i.toNat] := by
  unfold rd; rw [List.getD_eq_getElem?_getD, List.getElem?_eq_getElem h]; rfl
theorem fill_step {α : Type} (l : List α) (d : α) (i : Nat) (h : i < l.length) : (l.take i ++ List.replicate (l.length - i) d).set i l[i] = l.take (i + 1) ++ List.replicate (l.length - (i + 1)) d := by
  have e : List.replicate (l.length - i) d = d :: List.replicate (l.length - (i + 1)) d := by
    rw [show l.length - i = (l.length - (i + 1)) + 1 by omega]; rfl
  rw [e, List.set_append_right _ _ (by rw [List.length_take]; omega), List.length_take, show i - min i l.length = 0 by omega, List.set_cons_zero, List.take_succ_eq_append_getElem h, List.append_assoc]
  rfl
theorem drop_at {α : Type} (l : List α) (i : Nat) (h : i < l.length) : l.drop i = l[i] :: l.drop (i + 1) := List.drop_eq_getElem_cons h
def marks (k : Int) (n : Nat) : List Int := (List.range n).map (fun (i : Nat) => k + (i : Int))
theorem marks_length (k : Int) (n : Nat) : (marks k n).length = n := by simp [marks]
theorem marks_get (k : Int) (n i : Nat) (h : i < n) : (marks k n)[i]'(by rw [marks_length]; exact h) = k + i := by simp [marks]

def cvI (m : S105) : S107 := ⟨m.f0, m.f1, m.f2, m.f3⟩
theorem rdI_get {l : List S107} {i : Int} (h : i.toNat < l.length) : rd_T107 l i = l[i.toNat] := by
  unfold rd_T107; rw [List.getD_eq_getElem?_getD, List.getElem?_eq_getElem h]; rfl
theorem rdIl_get {l : List S105} {i : Int} (h : i.toNat < l.length) : rd_T105 l i = l[i.toNat] := by
  unfold rd_T105; rw [List.getD_eq_getElem?_getD, List.getElem?_eq_getElem h]; rfl

theorem szItem (a b c : Int) (s : ByteArray) (m : Int) (hs : s.size ≤ maxLen) (hm : 0 ≤ m ∧ m ≤ 9000000) : laws_szItem.f a b c s m = some (if m - s.size < 0 then -1 else m - s.size) := by
  unfold maxLen at hs
  unfold laws_szItem.f
  rw [wrapId (by omega) (by omega)]
  split <;> rfl

def sizedI (l : List S105) : Prop := l.length ≤ 1048576 ∧ ∀ m ∈ l, m.f3.size ≤ 1048576
theorem szItemS_l0 (l : List S105) (hl : l.length ≤ 1048576) (hg : ∀ m ∈ l, m.f3.size ≤ maxLen) (d : Nat) : ∀ (i : Nat) (m : Int), l.length - i = d → i ≤ l.length → 0 ≤ m → m ≤ 1048576 → Gets (fun k => laws_szItemS.l0 k l m (i : Int)) (fun r => r < 0 ∨ (0 ≤ r ∧ r ≤ m ∧ ∀ x ∈ l.drop i, x.f3.size ≤ 1048576)) := by
  induction d with
  | zero =>
    intro i m hd hi h0 h1
    refine Gets.step (fun k => laws_szItemS.l0.eq_2 ..) (Gets.neg (by omega) (Gets.ret (.inr ⟨h0, Int.le_refl _, ?_⟩)))
    rw [List.drop_of_length_le (by omega)]
    simp
  | succ d ih =>
    intro i m hd hi h0 h1
    refine Gets.step (fun k => laws_szItemS.l0.eq_2 ..) (Gets.pos (by omega) (Gets.pos (by omega) ?_))
    rw [rdIl_get (by omega), szItem _ _ _ _ _ (hg _ (List.getElem_mem _)) (by omega), wrapId (by omega) (by omega), drop_at l i (by omega)]
    simp only [Int.toNat_natCast, Option.bind_some]
    rw [show ((i : Int) + 1) = ((i + 1 : Nat) : Int) by omega]
    by_cases hn : m - (l[i].f3.size : Int) < 0
    · simp only [hn, if_true]
      exact Gets.pos (by omega) (Gets.ret (.inl (by omega)))
    · simp only [hn, if_false]
      refine (ih (i + 1) _ (by omega) (by omega) (by omega) (by omega)).mono (fun r hr => ?_)
      rcases hr with hr | ⟨h2, h3, h4⟩
      · exact .inl hr
      · refine .inr ⟨h2, by omega, fun x hx => ?_⟩
        rcases List.mem_cons.1 hx with rfl | hx
        · omega
        · exact h4 x hx
theorem szItemS (l : List S105) (m : Int) (hm : 0 ≤ m ∧ m ≤ 1048576) (hl : l.length ≤ maxLen) (hg : ∀ m ∈ l, m.f3.size ≤ maxLen) : Gets (fun k => laws_szItemS.f k l m) (fun r => r < 0 ∨ (0 ≤ r ∧ r ≤ m ∧ sizedI l)) := by
  unfold maxLen at hl
  unfold laws_szItemS.f
  rw [wrapId (by omega) (by omega)]
  refine Gets.ite (fun h => Gets.ret (.inl (by omega))) (fun h => ?_)
  refine (szItemS_l0 l (by omega) hg l.length 0 _ (by omega) (by omega) (by omega) (by omega)).mono (fun r hr => ?_)
  rcases hr with hr | ⟨h2, h3, h4⟩
  · exact .inl hr
  · exact .inr ⟨h2, by omega, by omega, fun x hx => h4 x (by simpa using hx)⟩

theorem toItemS_l0 (l : List S105) (hl : l.length ≤ 7036874417766) (d : Nat) : ∀ i : Nat, l.length - i = d → i ≤ l.length → Gets (fun k => laws_toItemS.l0 k l ((l.map cvI).take i ++ List.replicate ((l.map cvI).length - i) z107) (i : Int)) (· = l.map cvI) := by
  induction d with
  | zero =>
    intro i hd hi
    refine Gets.step (fun k => laws_toItemS.l0.eq_2 ..) (Gets.neg (by omega) (Gets.ret ?_))
    rw [List.take_of_length_le (by simp; omega), show (l.map cvI).length - i = 0 by simp; omega]
    simp
  | succ d ih =>
    intro i hd hi
    refine Gets.step (fun k => laws_toItemS.l0.eq_2 ..) (Gets.pos (by omega) (Gets.pos (by omega) ?_))
    simp only [laws_toItem.f, Option.bind_some]
    refine Gets.pos (by simp; omega) ?_
    rw [rdIl_get (by omega), wrapId (by omega) (by omega)]
    simp only [Int.toNat_natCast]
    have e : (⟨l[i].f0, l[i].f1, l[i].f2, l[i].f3⟩ : S107) = (l.map cvI)[i]'(by simp; omega) := by simp [cvI]
    rw [e, fill_step (l.map cvI) z107 i (by simp; omega), show ((i : Int) + 1) = ((i + 1 : Nat) : Int) by omega]
    exact ih (i + 1) (by omega) (by omega)
theorem toItemS (l : List S105) (hl : l.length ≤ 7036874417766) : Gets (fun k => laws_toItemS.f k l) (· = l.map cvI) := by
  unfold laws_toItemS.f
  refine Gets.pos (by omega) (Gets.pos (by omega) ?_)
  have h := toItemS_l0 l hl l.length 0 (by omega) (by omega)
  simpa using h

/-! ### texts as lists of numbers -/
theorem bytesOf_inj {a b : ByteArray} (h : bytesOf a = bytesOf b) : a = b := by
  have hl : a.data.toList = b.data.toList := by
    unfold bytesOf at h
    exact List.map_inj_right (fun x y hxy => UInt8.toNat_inj.1 (by exact_mod_cast hxy)) |>.1 h
  have hd : a.data = b.data := Array.toList_inj.1 hl
  cases a; cases b; cases hd; rfl
theorem toList_iff (a b : ByteArray) : a.toList = b.toList ↔ a = b := by
  rw [Lib.toList_data, Lib.toList_data]
  exact ⟨fun h => bytesOf_inj (by unfold bytesOf; rw [h]), fun h => by rw [h]⟩
theorem bytesOf_range {s : ByteArray} {x : Int} (h : x ∈ bytesOf s) : 0 ≤ x ∧ x < 256 := by
  unfold bytesOf at h
  obtain ⟨b, _, rfl⟩ := List.mem_map.1 h
  have := b.toNat_lt
  omega
theorem bytesOf_str {xs : List Int} (h : ∀ x ∈ xs, 0 ≤ x ∧ x < 256) : bytesOf (strOfNums xs) = xs := by
  unfold bytesOf
  rw [strOfNums_data, List.map_map]
  conv => rhs; rw [← List.map_id xs]
  refine List.map_congr_left (fun x hx => ?_)
  have := h x hx
  simp only [Function.comp, UInt8.toNat_ofNat', id]
  omega
theorem str_bytesOf (s : ByteArray) : strOfNums (bytesOf s) = s := bytesOf_inj (bytesOf_str (fun _ => bytesOf_range))
theorem bytesOf_extract (s : ByteArray) (a b : Nat) : bytesOf (s.extract a b) = ((bytesOf s).drop a).take (b - a) := by
  unfold bytesOf
  rw [Lib.extract_data, List.map_take, List.map_drop]
theorem bytesOf_app (a b : ByteArray) : bytesOf (a ++ b) = bytesOf a ++ bytesOf b := by
  unfold bytesOf
  rw [← List.map_append]
  congr 1
  first | done | simp
theorem bt_getD (s : ByteArray) (i : Int) : bt s i = (bytesOf s).getD i.toNat 0 := (rd_bytesOf s i).symm
theorem bytesOf_empty : bytesOf (⟨#[]⟩ : ByteArray) = [] := rfl
theorem size_eq (s : ByteArray) : s.size = (bytesOf s).length := (bytesOf_length s).symm
theorem size_app (a b : ByteArray) : (a ++ b).size = a.size + b.size := by simp

theorem eqItem (m n : S107) : laws_eqItem.f m.f0 m.f1 m.f2 m.f3 n.f0 n.f1 n.f2 n.f3 = some true ↔ m = n := by
  unfold laws_eqItem.f
  constructor
  · intro h
    repeat' (split at h)
    all_goals (first | (cases h; done) | skip)
    rename_i h0 h1 h2 h3
    cases m; cases n
    simp only at h0 h1 h2 h3
    rw [toList_iff] at h3
    subst h0 h1 h2 h3
    rfl
  · rintro rfl
    simp
theorem eqItem_some (m n : S107) : ∃ b, laws_eqItem.f m.f0 m.f1 m.f2 m.f3 n.f0 n.f1 n.f2 n.f3 = some b := by
  unfold laws_eqItem.f
  repeat' split
  all_goals exact ⟨_, rfl⟩
theorem eqItem_gets (m n : S107) : Gets (fun _ => laws_eqItem.f m.f0 m.f1 m.f2 m.f3 n.f0 n.f1 n.f2 n.f3) (fun b => b = true ↔ m = n) := by
  obtain ⟨b, hb⟩ := eqItem_some m n
  refine Gets.same hb ?_
  rw [← eqItem m n, hb]
  simp
theorem eqItemS_l0 (a b : List S107) (ha : a.length ≤ 35184372088832) (hab : a.length = b.length) (d : Nat) : ∀ i : Nat, a.length - i = d → i ≤ a.length → Gets (fun k => laws_eqItemS.l0 k a b (i : Int)) (fun r => r = true ↔ a.drop i = b.drop i) := by
  induction d with
  | zero =>
    intro i hd hi
    refine Gets.step (fun k => laws_eqItemS.l0.eq_2 ..) (Gets.neg (by omega) (Gets.ret ?_))
    rw [List.drop_of_length_le (by omega), List.drop_of_length_le (by omega)]
    simp
  | succ d ih =>
    intro i hd hi
    refine Gets.step (fun k => laws_eqItemS.l0.eq_2 ..) (Gets.pos (by omega) (Gets.pos (by omega) (Gets.pos (by omega) ?_)))
    rw [rdI_get (by omega), rdI_get (by omega), wrapId (by omega) (by omega)]
    simp only [Int.toNat_natCast]
    rw [drop_at a i (by omega), drop_at b i (by omega)]
    refine Gets.bind (eqItem_gets _ _) (fun t ht => ?_)
    refine Gets.ite (fun h => ?_) (fun h => Gets.ret ?_)
    · rw [show ((i : Int) + 1) = ((i + 1 : Nat) : Int) by omega]
      refine (ih (i + 1) (by omega) (by omega)).mono (fun r hr => ?_)
      rw [hr]
      simp only [List.cons.injEq, ht.1 h, true_and]
    · have hne : ¬ a[i] = b[i] := fun e => h (ht.2 e)
      simp only [List.cons.injEq, hne, false_and, Bool.false_eq_true]
theorem eqItemS (a b : List S107) (ha : a.length ≤ 35184372088832) : Gets (fun k => laws_eqItemS.f k a b) (fun r => r = true ↔ a = b) := by
  unfold laws_eqItemS.f
  refine Gets.ite (fun h => ?_) (fun h => Gets.ret ?_)
  · exact eqItemS_l0 a b ha (by omega) a.length 0 (by omega) (by omega)
  · simp only [Bool.false_eq_true, false_iff]
    rintro rfl
    exact h rfl
theorem eqItemS_true (a : List S107) (ha : a.length ≤ 35184372088832) : Gets (fun k => laws_eqItemS.f k a a) (fun r => r = true) := (eqItemS a a ha).mono (fun r hr => hr.2 rfl)

theorem markText_l0 (d : Nat) : ∀ (n : Nat) (s : ByteArray), n < 10 ^ d → s.size + d ≤ 1000 → n ≤ 9000000000 → ∃ t, Ev (fun k => laws_markText.l0 k (n : Int) s) t := by
  induction d with
  | zero =>
    intro n s h hs hn
    have e : Gets (fun k => laws_markText.l0 k (n : Int) s) (fun _ => True) := Gets.step (fun k => laws_markText.l0.eq_2 ..) (Gets.neg (by omega) (Gets.pos (by omega) (Gets.ret trivial)))
    obtain ⟨t, ht, _⟩ := e
    exact ⟨t, ht⟩
  | succ d ih =>
    intro n s h hs hn
    have e : Gets (fun k => laws_markText.l0 k (n : Int) s) (fun _ => True) := by
      refine Gets.step (fun k => laws_markText.l0.eq_2 ..) (Gets.ite (fun h1 => ?_) (fun h1 => Gets.pos (by omega) (Gets.ret trivial)))
      simp only [Option.bind_some]
      refine Gets.pos (by rw [strOfNums_size]; simp; omega) ?_
      rw [tdiv_nn (by omega), wrapId (x := (n : Int) / 10) (by omega) (by omega), show (n : Int) / 10 = ((n / 10 : Nat) : Int) by omega]
      obtain ⟨t, ht⟩ := ih (n / 10) (strOfNums [(wrap64 (48 + (Int.tmod n 10))) % 256] ++ s) (by
        have : (10 : Nat) ^ (d + 1) = 10 ^ d * 10 := Nat.pow_succ ..
        rw [Nat.div_lt_iff_lt_mul (by omega)]; omega) (by simp [strOfNums_size]; omega) (by omega)
      exact Ev.gets ht trivial
    obtain ⟨t, ht, _⟩ := e
    exact ⟨t, ht⟩
theorem markText_some (n : Int) (h0 : 0 ≤ n) (h1 : n ≤ 9000000000) : ∃ t, Ev (fun k => laws_markText.f k n) t := by
  by_cases h : n ≤ 0
  · exact ⟨_, (Gets.pos (f := fun _ => some (⟨#[109, 48]⟩ : ByteArray)) (g := fun k => laws_markText.l0 k n (⟨#[]⟩ : ByteArray)) (Q := (· = (⟨#[109, 48]⟩ : ByteArray))) h (Gets.ret rfl)).ev⟩
  · obtain ⟨m, rfl⟩ := Int.eq_ofNat_of_zero_le h0
    obtain ⟨t, ht⟩ := markText_l0 10 m (⟨#[]⟩ : ByteArray) (by have : (10 : Nat) ^ 10 = 10000000000 := by decide
                                                               omega) (by decide) (by omega)
    exact ⟨t, (Gets.neg (f := fun _ => some (⟨#[109, 48]⟩ : ByteArray)) h (Ev.gets (Q := (· = t)) ht rfl)).ev⟩
/-- The text that marks n. -/
noncomputable def mtx (n : Int) : ByteArray := if h : 0 ≤ n ∧ n ≤ 9000000000 then Classical.choose (markText_some n h.1 h.2) else ⟨#[]⟩
theorem markText (n : Int) (h0 : 0 ≤ n) (h1 : n ≤ 9000000000) : Ev (fun k => laws_markText.f k n) (mtx n) := by
  unfold mtx
  rw [dif_pos ⟨h0, h1⟩]
  exact Classical.choose_spec (markText_some n h0 h1)

noncomputable def markI (k : Int) : S107 := ⟨k, k + 1, k + 2, mtx (k + 3)⟩
noncomputable def marksI (k : Int) (n : Nat) : List S107 := (List.range n).map (fun (i : Nat) => markI (k + 4 * (i : Int)))
theorem marksI_length (k : Int) (n : Nat) : (marksI k n).length = n := by simp [marksI]
theorem rdI_set {l : List S107} {i : Nat} {v : S107} (h : i < l.length) : rd_T107 (l.set i v) (i : Int) = v := by
  rw [rdI_get (by simp; omega)]; simp
theorem markItemS_l0 (n : Nat) (m : Int) (hn : n ≤ 9000000) (hm : 0 ≤ m ∧ m ≤ 9000000) (d : Nat) : ∀ (i : Nat) (l : List S107), n - i = d → i ≤ n → l.length = n → l.take i = marksI m i → Gets (fun k => laws_markItemS.l0 k l (m + 4 * i) (i : Int)) (· = (m + 4 * n, marksI m n)) := by
  induction d with
  | zero =>
    intro i l hd hi hl ht
    refine Gets.step (fun k => laws_markItemS.l0.eq_2 ..) (Gets.neg (by omega) (Gets.ret ?_))
    obtain rfl : i = n := by omega
    rw [List.take_of_length_le (by omega)] at ht
    rw [ht]
  | succ d ih =>
    intro i l hd hi hl ht
    refine Gets.step (fun k => laws_markItemS.l0.eq_2 ..) (Gets.pos (by omega) (Gets.pos (by omega) ?_))
    simp only [Option.bind_some, Int.toNat_natCast, List.set_set]
    rw [wrapId (x := m + 4 * (i : Int) + 1) (by omega) (by omega), wrapId (x := m + 4 * (i : Int) + 1 + 1) (by omega) (by omega), wrapId (x := m + 4 * (i : Int) + 1 + 1 + 1) (by omega) (by omega), wrapId (x := m + 4 * (i : Int) + 1 + 1 + 1 + 1) (by omega) (by omega), wrapId (x := (i : Int) + 1) (by omega) (by omega)]
    refine Gets.bindE (markText _ (by omega) (by omega)) ?_
    rw [rdI_set (by omega), rdI_set (by omega), rdI_set (by omega)]
    rw [show ((i : Int) + 1) = ((i + 1 : Nat) : Int) by omega, show m + 4 * (i : Int) + 1 + 1 + 1 + 1 = m + 4 * ((i + 1 : Nat) : Int) by omega]
    refine ih (i + 1) _ (by omega) (by omega) (by simpa using hl) ?_
    rw [List.take_succ_eq_append_getElem (by rw [List.length_set]; omega), List.getElem_set_self, List.take_set_of_le (by omega), ht]
    simp only [marksI, List.range_succ, List.map_append, List.map_cons, List.map_nil, markI, show m + 4 * (i : Int) + 1 + 1 = m + 4 * (i : Int) + 2 by omega, show m + 4 * (i : Int) + 2 + 1 = m + 4 * (i : Int) + 3 by omega]
theorem markItemS (l : List S107) (m : Int) (hn : l.length ≤ 9000000) (hm : 0 ≤ m ∧ m ≤ 9000000) : Gets (fun k => laws_markItemS.f k l m) (· = (m + 4 * l.length, marksI m l.length)) := by
  unfold laws_markItemS.f
  have h := markItemS_l0 l.length m hn hm l.length 0 l (by omega) (by omega) rfl (by simp [marksI])
  simpa using h

theorem eqIntS_l0 (a b : List Int) (ha : a.length ≤ 35184372088832) (hab : a.length = b.length) (d : Nat) : ∀ i : Nat, a.length - i = d → i ≤ a.length → Gets (fun k => laws_eqIntS.l0 k a b (i : Int)) (fun r => r = true ↔ a.drop i = b.drop i) := by
  induction d with
  | zero =>
    intro i hd hi
    refine Gets.step (fun k => laws_eqIntS.l0.eq_2 ..) (Gets.neg (by omega) (Gets.ret ?_))
    rw [List.drop_of_length_le (by omega), List.drop_of_length_le (by omega)]
    simp
  | succ d ih =>
    intro i hd hi
    refine Gets.step (fun k => laws_eqIntS.l0.eq_2 ..) (Gets.pos (by omega) (Gets.pos (by omega) (Gets.pos (by omega) ?_)))
    rw [rd_get (by omega), rd_get (by omega), wrapId (by omega) (by omega)]
    simp only [Int.toNat_natCast]
    rw [drop_at a i (by omega), drop_at b i (by omega)]
    refine Gets.ite (fun h => ?_) (fun h => Gets.ret ?_)
    · rw [show ((i : Int) + 1) = ((i + 1 : Nat) : Int) by omega]
      refine (ih (i + 1) (by omega) (by omega)).mono (fun r hr => ?_)
      rw [hr]
      simp only [List.cons.injEq, h, true_and]
    · simp only [List.cons.injEq, h, false_and, Bool.false_eq_true]
theorem eqIntS (a b : List Int) (ha : a.length ≤ 35184372088832) : Gets (fun k => laws_eqIntS.f k a b) (fun r => r = true ↔ a = b) := by
  unfold laws_eqIntS.f
  refine Gets.ite (fun h => ?_) (fun h => Gets.ret ?_)
  · exact eqIntS_l0 a b ha (by omega) a.length 0 (by omega) (by omega)
  · simp only [Bool.false_eq_true, false_iff]
    rintro rfl
    exact h rfl
theorem eqIntS_true (a : List Int) (ha : a.length ≤ 35184372088832) : Gets (fun k => laws_eqIntS.f k a a) (fun r => r = true) := (eqIntS a a ha).mono (fun r hr => hr.2 rfl)

theorem markIntS_l0 (n : Nat) (m : Int) (hn : n ≤ 35184372088832) (hm : 0 ≤ m ∧ m ≤ 35184372088832) (d : Nat) : ∀ (i : Nat) (l : List Int), n - i = d → i ≤ n → l.length = n → l.take i = marks m i → Gets (fun k => laws_markIntS.l0 k l (m + i) (i : Int)) (· = (m + n, marks m n)) := by
  induction d with
  | zero =>
    intro i l hd hi hl ht
    refine Gets.step (fun k => laws_markIntS.l0.eq_2 ..) (Gets.neg (by omega) (Gets.ret ?_))
    obtain rfl : i = n := by omega
    rw [List.take_of_length_le (by omega)] at ht
    rw [ht]
  | succ d ih =>
    intro i l hd hi hl ht
    refine Gets.step (fun k => laws_markIntS.l0.eq_2 ..) (Gets.pos (by omega) (Gets.pos (by omega) ?_))
    rw [wrapId (by omega) (by omega), wrapId (by omega) (by omega)]
    simp only [Int.toNat_natCast]
    rw [show ((i : Int) + 1) = ((i + 1 : Nat) : Int) by omega, show m + (i : Int) + 1 = m + ((i + 1 : Nat) : Int) by omega]
    refine ih (i + 1) _ (by omega) (by omega) (by simpa using hl) ?_
    have hlt : i < (l.set i (m + i)).length := by rw [List.length_set]; omega
    rw [List.take_succ_eq_append_getElem hlt, List.getElem_set_self, List.take_set_of_le (by omega), ht]
    simp [marks, List.range_succ]
theorem markIntS (l : List Int) (m : Int) (hn : l.length ≤ 35184372088832) (hm : 0 ≤ m ∧ m ≤ 35184372088832) : Gets (fun k => laws_markIntS.f k l m) (· = (m + l.length, marks m l.length)) := by
  unfold laws_markIntS.f
  have h := markIntS_l0 l.length m hn hm l.length 0 l (by omega) (by omega) rfl (by simp [marks])
  simpa using h
theorem heldIntS_l0 (n : Nat) (m : Int) (hn : n ≤ 35184372088832) (hm : 0 ≤ m ∧ m ≤ 35184372088832) (d : Nat) : ∀ (i : Nat), n - i = d → i ≤ n → Gets (fun k => laws_heldIntS.l0 k (marks m n) (m + i) (i : Int)) (· = m + n) := by
  induction d with
  | zero =>
    intro i hd hi
    refine Gets.step (fun k => laws_heldIntS.l0.eq_2 ..) (Gets.neg (by rw [marks_length]; omega) (Gets.ret ?_))
    rw [show i = n by omega]
  | succ d ih =>
    intro i hd hi
    refine Gets.step (fun k => laws_heldIntS.l0.eq_2 ..) (Gets.pos (by rw [marks_length]; omega) (Gets.pos (by omega) ?_))
    rw [rd_get (by rw [marks_length]; omega), wrapId (by omega) (by omega), wrapId (by omega) (by omega)]
    refine Gets.pos (by simp only [Int.toNat_natCast]; exact marks_get m n i (by omega)) ?_
    rw [show ((i : Int) + 1) = ((i + 1 : Nat) : Int) by omega, show m + (i : Int) + 1 = m + ((i + 1 : Nat) : Int) by omega]
    exact ih (i + 1) (by omega) (by omega)
theorem heldIntS (m : Int) (n : Nat) (hn : n ≤ 35184372088832) (hm : 0 ≤ m ∧ m ≤ 35184372088832) : Gets (fun k => laws_heldIntS.f k (marks m n) m) (· = m + n) := by
  unfold laws_heldIntS.f
  have h := heldIntS_l0 n m hn hm n 0 (by omega) (by omega)
  simpa using h

def atI (s : Int) : List S107 → Int × Int × Int × ByteArray × Bool
  | [] => (0, 0, 0, (⟨#[]⟩ : ByteArray), false)
  | m :: l => if m.f0 = s then (m.f0, m.f1, m.f2, m.f3, true) else atI s l
def hasI (l : List S107) (s : Int) : Bool := (atI s l).2.2.2.2
theorem hasI_iff (l : List S107) (s : Int) : hasI l s = true ↔ ∃ m ∈ l, m.f0 = s := by
  unfold hasI
  induction l with
  | nil => simp [atI]
  | cons m l ih =>
    by_cases h : m.f0 = s
    · simp [atI, h]
    · simp only [atI, h, if_false, List.mem_cons, exists_eq_or_imp, false_or]; exact ih
/-- The greatest number up to which none is missing, from n on; f: how many are left to look for. -/
def aruF (l : List S107) : Nat → Nat → Nat
  | 0, n => n
  | f + 1, n => if hasI l ((n : Int) + 1) = true then aruF l f (n + 1) else n
def aruI (l : List S107) : Nat := aruF l l.length 0
theorem pigeon (k : Nat) : ∀ l : List S107, (∀ s : Nat, 1 ≤ s → s ≤ k → ∃ m ∈ l, m.f0 = (s : Int)) → k ≤ l.length := by
  induction k with
  | zero => intro l _; omega
  | succ k ih =>
    intro l h
    obtain ⟨m, hm, he⟩ := h (k + 1) (by omega) (by omega)
    have h1 := ih (l.filter (fun x => decide (x.f0 ≠ ((k + 1 : Nat) : Int)))) (fun s h1 h2 => by
      obtain ⟨x, hx, hxe⟩ := h s h1 (by omega)
      exact ⟨x, List.mem_filter.2 ⟨hx, decide_eq_true (by omega)⟩, hxe⟩)
    have h2 : (l.filter (fun x => decide (x.f0 ≠ ((k + 1 : Nat) : Int)))).length < l.length := by
      rw [List.length_filter_lt_length_iff_exists]
      exact ⟨m, hm, by simp [he]⟩
    omega
theorem aruF_yes {l : List S107} {f n : Nat} (h : hasI l ((n : Int) + 1) = true) : aruF l (f + 1) n = aruF l f (n + 1) := by rw [aruF, if_pos h]
theorem aruF_no {l : List S107} {f n : Nat} (h : ¬ hasI l ((n : Int) + 1) = true) : aruF l (f + 1) n = n := by rw [aruF, if_neg h]
theorem aruF_le (l : List S107) (f : Nat) : ∀ n, n ≤ aruF l f n ∧ aruF l f n ≤ n + f := by
  induction f with
  | zero => intro n; simp [aruF]
  | succ f ih =>
    intro n
    have := ih (n + 1)
    by_cases h : hasI l ((n : Int) + 1) = true
    · rw [aruF_yes h]; omega
    · rw [aruF_no h]; omega

/-- Those of n, n + 1, .. u that are missing, f of them at the most looked at, until there are 20. -/
def missF (l : List S107) (u : Int) : Nat → Int → List Int → List Int
  | 0, _, acc => acc
  | f + 1, n, acc => if n ≤ u ∧ (acc.length : Int) < 20 then (if hasI l n = true then missF l u f (n + 1) acc else missF l u f (n + 1) (acc ++ [n])) else acc
theorem missF_length (l : List S107) (u : Int) (f : Nat) : ∀ (n : Int) (acc : List Int), acc.length ≤ 20 → (missF l u f n acc).length ≤ 20 := by
  induction f with
  | zero => intro n acc h; exact h
  | succ f ih =>
    intro n acc h
    unfold missF
    split
    · split
      · exact ih _ _ h
      · exact ih _ _ (by simp; omega)
    · exact h
def missI (l : List S107) (u : Int) : List Int := missF l (if u ≤ 60 then u else 60) 100 ((aruI l : Int) + 1) []

theorem implItemAt_l0 (l : List S107) (s : Int) (hl : l.length ≤ 35184372088832) (d : Nat) : ∀ i : Nat, l.length - i = d → i ≤ l.length → Gets (fun k => impl_ItemAt.l0 k s l (l.length : Int) (i : Int)) (· = atI s (l.drop i)) := by
  induction d with
  | zero =>
    intro i hd hi
    refine Gets.step (fun k => impl_ItemAt.l0.eq_2 ..) (Gets.neg (by omega) (Gets.ret ?_))
    rw [List.drop_of_length_le (by omega)]; rfl
  | succ d ih =>
    intro i hd hi
    refine Gets.step (fun k => impl_ItemAt.l0.eq_2 ..) (Gets.pos (by omega) (Gets.pos (by omega) (Gets.pos (by omega) ?_)))
    rw [rdI_get (by omega), wrapId (by omega) (by omega), drop_at l i (by omega)]
    simp only [Int.toNat_natCast, atI]
    refine Gets.ite (fun h => Gets.ret (by rw [if_pos h])) (fun h => ?_)
    rw [show ((i : Int) + 1) = ((i + 1 : Nat) : Int) by omega]
    refine (ih (i + 1) (by omega) (by omega)).mono (fun r hr => ?_)
    rw [hr, if_neg h]
theorem implItemAt (l : List S107) (s : Int) (hl : l.length ≤ 35184372088832) : Gets (fun k => impl_ItemAt.f k l s) (· = atI s l) := by
  unfold impl_ItemAt.f
  exact implItemAt_l0 l s hl l.length 0 (by omega) (by omega)

theorem implAru_l0 (l : List S107) (hl : l.length ≤ 35184372088832) (d : Nat) : ∀ n : Nat, n + d = l.length → (∀ s : Nat, 1 ≤ s → s ≤ n → hasI l (s : Int) = true) → Gets (fun k => impl_AruOf.l0 k l (n : Int)) (· = (aruF l d n : Int)) := by
  induction d with
  | zero =>
    intro n hd hn
    refine Gets.step (fun k => impl_AruOf.l0.eq_2 ..) ?_
    rw [wrapId (by omega) (by omega)]
    refine Gets.bindE (implItemAt l _ hl).ev (Gets.neg (fun h => ?_) (Gets.ret rfl))
    have := pigeon (n + 1) l (fun s h1 h2 => by
      rw [← hasI_iff]
      rcases Nat.lt_or_ge n s with h3 | h3
      · rw [show s = n + 1 by omega]; exact h
      · exact hn s h1 h3)
    omega
  | succ d ih =>
    intro n hd hn
    refine Gets.step (fun k => impl_AruOf.l0.eq_2 ..) ?_
    rw [wrapId (by omega) (by omega)]
    refine Gets.bindE (implItemAt l _ hl).ev (Gets.ite (fun h => ?_) (fun h => Gets.ret ?_))
    · rw [show ((n : Int) + 1) = ((n + 1 : Nat) : Int) by omega]
      refine (ih (n + 1) (by omega) (fun s h1 h2 => ?_)).mono (fun r hr => ?_)
      · rcases Nat.lt_or_ge n s with h3 | h3
        · rw [show s = n + 1 by omega]; exact h
        · exact hn s h1 h3
      · rw [hr, aruF_yes h]
    · rw [aruF_no h]
theorem implAru (l : List S107) (hl : l.length ≤ 35184372088832) : Gets (fun k => impl_AruOf.f k l) (· = (aruI l : Int)) := by
  unfold impl_AruOf.f
  exact implAru_l0 l hl l.length 0 (by omega) (fun s h1 h2 => by omega)

theorem implMiss_l0 (l : List S107) (u v : Int) (hl : l.length ≤ 35184372088832) (hu : mn u 60 = v) (hv : v ≤ 60) (f : Nat) : ∀ (n : Int) (acc : List Int), 1 ≤ n → n ≤ 35184372088840 → 61 - n < f → acc.length ≤ 20 → Gets (fun k => impl_Missing.l0 k l u acc n) (· = missF l v f n acc) := by
  induction f with
  | zero => 
    intro n acc h0 h1 h2 h3
    refine Gets.step (fun k => impl_Missing.l0.eq_2 ..) ?_
    rw [hu]
    refine Gets.neg (by omega) (Gets.step (fun k => impl_Missing.j1.eq_2 ..) (Gets.neg (by simp) (Gets.ret rfl)))
  | succ f ih =>
    intro n acc h0 h1 h2 h3
    have done : ∀ c, c = false → ¬ (n ≤ v ∧ (acc.length : Int) < 20) → Gets (fun k => impl_Missing.j1 k l u acc n c) (· = missF l v (f + 1) n acc) := fun c hc h => by
      refine Gets.step (fun k => impl_Missing.j1.eq_2 ..) (Gets.neg (by rw [hc]; simp) (Gets.ret ?_))
      unfold missF; rw [if_neg h]
    refine Gets.step (fun k => impl_Missing.l0.eq_2 ..) ?_
    rw [hu]
    refine Gets.ite (fun h => ?_) (fun h => done _ rfl (fun h4 => h h4.1))
    by_cases h5 : (acc.length : Int) < 20
    · refine Gets.step (fun k => impl_Missing.j1.eq_2 ..) (Gets.pos (by rw [decide_eq_true h5]) (Gets.bindE (implItemAt l n hl).ev ?_))
      rw [wrapId (by omega) (by omega)]
      have e : missF l v (f + 1) n acc = if hasI l n = true then missF l v f (n + 1) acc else missF l v f (n + 1) (acc ++ [n]) := by
        conv => lhs; unfold missF
        rw [if_pos ⟨h, h5⟩]
      rw [e]
      refine Gets.ite (fun h6 => ?_) (fun h6 => Gets.pos (by omega) ?_)
      · have h6 : hasI l n = true := h6
        simp only [h6, if_true]
        exact ih (n + 1) acc (by omega) (by omega) (by omega) h3
      · have h6 : ¬ hasI l n = true := h6
        rw [if_neg h6]
        exact ih (n + 1) (acc ++ [n]) (by omega) (by omega) (by omega) (by simp; omega)
    · exact done _ (decide_eq_false h5) (fun h4 => h5 h4.2)
theorem mn60 (u : Int) : mn u 60 = if u ≤ 60 then u else 60 := by
  unfold mn
  split <;> split <;> omega
theorem implMiss (l : List S107) (u : Int) (hl : l.length ≤ 35184372088832) : Gets (fun k => impl_Missing.f k l u) (· = missI l u) := by
  unfold impl_Missing.f missI
  have ha := aruF_le l l.length 0
  have ha : (aruI l : Int) ≤ l.length := by unfold aruI; omega
  refine Gets.bindE (implAru l hl).ev ?_
  rw [wrapId (by omega) (by omega)]
  exact implMiss_l0 l u _ hl (mn60 u) (by split <;> omega) 100 _ [] (by omega) (by omega) (by omega) (by simp)

theorem specItemAt_l0 (l : List S107) (s : Int) (hl : l.length ≤ 35184372088832) (d : Nat) : ∀ i : Nat, l.length - i = d → i ≤ l.length → Gets (fun k => spec_ItemAt.l0 k l s (i : Int)) (· = atI s (l.drop i)) := by
  induction d with
  | zero =>
    intro i hd hi
    refine Gets.step (fun k => spec_ItemAt.l0.eq_2 ..) (Gets.neg (by omega) (Gets.ret ?_))
    rw [List.drop_of_length_le (by omega)]; rfl
  | succ d ih =>
    intro i hd hi
    refine Gets.step (fun k => spec_ItemAt.l0.eq_2 ..) (Gets.pos (by omega) (Gets.pos (by omega) ?_))
    rw [rdI_get (by omega), wrapId (by omega) (by omega), drop_at l i (by omega)]
    simp only [Int.toNat_natCast, atI]
    refine Gets.ite (fun h => Gets.ret (by rw [if_pos h])) (fun h => ?_)
    rw [show ((i : Int) + 1) = ((i + 1 : Nat) : Int) by omega]
    refine (ih (i + 1) (by omega) (by omega)).mono (fun r hr => ?_)
    rw [hr, if_neg h]
theorem specItemAt (l : List S107) (s : Int) (hl : l.length ≤ 35184372088832) : Gets (fun k => spec_ItemAt.f k l s) (· = atI s l) := by
  unfold spec_ItemAt.f
  exact specItemAt_l0 l s hl l.length 0 (by omega) (by omega)

theorem specAru_l0 (l : List S107) (hl : l.length ≤ 35184372088832) (d : Nat) : ∀ n : Nat, n + d = l.length → Gets (fun k => spec_AruOf.l0 k l (n : Int) (n : Int)) (· = (aruF l d n : Int)) := by
  induction d with
  | zero =>
    intro n hd
    exact Gets.step (fun k => spec_AruOf.l0.eq_2 ..) (Gets.neg (by omega) (Gets.ret rfl))
  | succ d ih =>
    intro n hd
    refine Gets.step (fun k => spec_AruOf.l0.eq_2 ..) (Gets.pos (by omega) ?_)
    rw [wrapId (by omega) (by omega)]
    refine Gets.bindE (specItemAt l _ hl).ev (Gets.ite (fun h => ?_) (fun h => Gets.ret ?_))
    · rw [show ((n : Int) + 1) = ((n + 1 : Nat) : Int) by omega]
      refine (ih (n + 1) (by omega)).mono (fun r hr => ?_)
      rw [hr, aruF_yes h]
    · rw [aruF_no h]
theorem specAru (l : List S107) (hl : l.length ≤ 35184372088832) : Gets (fun k => spec_AruOf.f k l) (· = (aruI l : Int)) := by
  unfold spec_AruOf.f
  exact specAru_l0 l hl l.length 0 (by omega)

theorem specMiss_l0 (l : List S107) (v : Int) (hl : l.length ≤ 35184372088832) (hv : v ≤ 60) (f : Nat) : ∀ (n : Int) (acc : List Int), 1 ≤ n → n ≤ 35184372088840 → 61 - n < f → acc.length ≤ 20 → Gets (fun k => spec_Missing.l0 k l v acc n) (· = missF l v f n acc) := by
  induction f with
  | zero => 
    intro n acc h0 h1 h2 h3
    refine Gets.step (fun k => spec_Missing.l0.eq_2 ..) ?_
    refine Gets.neg (by omega) (Gets.step (fun k => spec_Missing.j2.eq_2 ..) (Gets.neg (by simp) (Gets.ret rfl)))
  | succ f ih =>
    intro n acc h0 h1 h2 h3
    have done : ∀ c, c = false → ¬ (n ≤ v ∧ (acc.length : Int) < 20) → Gets (fun k => spec_Missing.j2 k l v acc n c) (· = missF l v (f + 1) n acc) := fun c hc h => by
      refine Gets.step (fun k => spec_Missing.j2.eq_2 ..) (Gets.neg (by rw [hc]; simp) (Gets.ret ?_))
      unfold missF; rw [if_neg h]
    refine Gets.step (fun k => spec_Missing.l0.eq_2 ..) ?_
    refine Gets.ite (fun h => ?_) (fun h => done _ rfl (fun h4 => h h4.1))
    by_cases h5 : (acc.length : Int) < 20
    · refine Gets.step (fun k => spec_Missing.j2.eq_2 ..) (Gets.pos (by rw [decide_eq_true h5]) (Gets.bindE (specItemAt l n hl).ev ?_))
      rw [wrapId (by omega) (by omega)]
      have e : missF l v (f + 1) n acc = if hasI l n = true then missF l v f (n + 1) acc else missF l v f (n + 1) (acc ++ [n]) := by
        conv => lhs; unfold missF
        rw [if_pos ⟨h, h5⟩]
      rw [e]
      refine Gets.ite (fun h6 => ?_) (fun h6 => Gets.pos (by omega) ?_)
      · have h6 : hasI l n = true := h6
        simp only [h6, if_true]
        exact ih (n + 1) acc (by omega) (by omega) (by omega) h3
      · have h6 : ¬ hasI l n = true := h6
        rw [if_neg h6]
        exact ih (n + 1) (acc ++ [n]) (by omega) (by omega) (by omega) (by simp; omega)
    · exact done _ (decide_eq_false h5) (fun h4 => h5 h4.2)
theorem specMiss (l : List S107) (u : Int) (hl : l.length ≤ 35184372088832) : Gets (fun k => spec_Missing.f k l u) (· = missI l u) := by
  unfold spec_Missing.f missI
  have ha := aruF_le l l.length 0
  have ha : (aruI l : Int) ≤ l.length := by unfold aruI; omega
  simp only [Option.bind_some]
  refine Gets.ite (fun h => ?_) (fun h => ?_)
  · refine Gets.step (fun k => spec_Missing.j0.eq_2 ..) (Gets.bindE (specAru l hl).ev ?_)
    rw [wrapId (by omega) (by omega), if_neg (by omega)]
    exact specMiss_l0 l 60 hl (by omega) 100 _ [] (by omega) (by omega) (by omega) (by simp)
  · refine Gets.step (fun k => spec_Missing.j0.eq_2 ..) (Gets.bindE (specAru l hl).ev ?_)
    rw [wrapId (by omega) (by omega), if_pos (by omega)]
    exact specMiss_l0 l u hl (by omega) 100 _ [] (by omega) (by omega) (by omega) (by simp)

theorem FnExactMissing : Stat.FnExactMissing := by
  intro l u hl _
  refine Gets.rounds ?_
  unfold laws_FnExactMissing.f
  refine Gets.bind (szItemS l _ (by omega) hl.1 (fun m hm => (hl.2 m hm).2.2.2)) (fun r hr => ?_)
  refine Gets.ite (fun _ => Gets.ret rfl) (fun h => ?_)
  have hz := (hr.resolve_left h).2.2
  have hn := hz.1
  have hn2 : (l.map cvI).length = l.length := by simp
  have hw : (missI (l.map cvI) u).length ≤ 20 := missF_length _ _ _ _ _ (by simp)
  refine Gets.bindE (toItemS l (by omega)).ev (Gets.bindE (specMiss _ u (by omega)).ev (Gets.bindE (toItemS l (by omega)).ev (Gets.bindE (implMiss _ u (by omega)).ev ?_)))
  refine Gets.bind (eqIntS_true _ (by omega)) (fun e he => Gets.pos he (Gets.bindE (toItemS l (by omega)).ev ?_))
  refine Gets.bind (eqItemS_true _ (by omega)) (fun e he => Gets.pos he (Gets.bindE (markItemS _ 1 (by omega) (by omega)).ev ?_))
  refine Gets.neg (by simp only; omega) (Gets.bind (eqIntS_true _ (by omega)) (fun e he => ?_))
  refine Gets.step (fun k => laws_FnExactMissing.j0.eq_2 ..) (Gets.neg (by rw [he]; simp) (Gets.bindE (markIntS _ 1 (by omega) (by omega)).ev ?_))
  refine Gets.bindE (heldIntS 1 _ (by omega) (by omega)).ev ?_
  refine Gets.neg (by omega) (Gets.pos rfl (Gets.bindE (toItemS l (by omega)).ev (Gets.bindE (implMiss _ u (by omega)).ev ?_)))
  refine Gets.bind (eqIntS_true _ (by omega)) (fun e he => Gets.pos he (Gets.bindE (heldIntS 1 _ (by omega) (by omega)).ev ?_))
  exact Gets.neg (by omega) (Gets.pos rfl (Gets.ret rfl))

end Go.Proofs.Ytlnmiafahjddhab.Pure
