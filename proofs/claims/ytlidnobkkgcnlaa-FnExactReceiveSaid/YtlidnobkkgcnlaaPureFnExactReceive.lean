/- Receive answers as the spec says, and keeps nothing of what it is handed -/
import Derived.Test.YtlidnobkkgcnlaaStatFnExactReceive
import Derived.Lib.Strings
set_option linter.unusedVariables false
set_option linter.unusedSimpArgs false
namespace Go.Proofs.Ytlidnobkkgcnlaa.Pure
open Go.RowKit Go.Proofs.Ytlidnobkkgcnlaa.PFnExactReceive Go.Proofs.YtlidnobkkgcnlaaW.PrintWords Go.Proofs.YtlidnobkkgcnlaaW.PrintLast

/-! ### plain words: from some number of rounds on -/
def Gets {α : Type} (f : Nat → Option α) (Q : α → Prop) : Prop := ∃ r, Ev f r ∧ Q r
theorem Gets.ret {α : Type} {Q : α → Prop} {r : α} (h : Q r) : Gets (fun _ => some r) Q := ⟨r, Ev.now r, h⟩
theorem Gets.none {α : Type} {Q : α → Prop} (h : False) : Gets (fun _ => (Option.none : Option α)) Q := h.elim
theorem Gets.step {α : Type} {g f : Nat → Option α} {Q : α → Prop} (h : ∀ k, g (k + 1) = f k) (k : Gets f Q) : Gets g Q := by
  obtain ⟨r, hr, hq⟩ := k
  exact ⟨r, Ev.step h hr, hq⟩
theorem Ev.ite {α : Type} {c : Prop} [Decidable c] {f g : Nat → Option α} {r : α} (h : c → Ev f r) (k : ¬ c → Ev g r) : Ev (fun n => if c then f n else g n) r := by
  by_cases hc : c
  · simp only [hc, if_true]; exact h hc
  · simp only [hc, if_false]; exact k hc
theorem Gets.ite {α : Type} {c : Prop} [Decidable c] {f g : Nat → Option α} {Q : α → Prop} (h : c → Gets f Q) (k : ¬ c → Gets g Q) : Gets (fun n => if c then f n else g n) Q := by
  by_cases hc : c
  · simp only [hc, if_true]; exact h hc
  · simp only [hc, if_false]; exact k hc
theorem Gets.pos {α : Type} {c : Prop} [Decidable c] {f g : Nat → Option α} {Q : α → Prop} (hc : c) (h : Gets f Q) : Gets (fun n => if c then f n else g n) Q := by
  simp only [hc, if_true]; exact h
theorem Gets.neg {α : Type} {c : Prop} [Decidable c] {f g : Nat → Option α} {Q : α → Prop} (hc : ¬ c) (h : Gets g Q) : Gets (fun n => if c then f n else g n) Q := by
  simp only [hc, if_false]; exact h
theorem Gets.bind {α β : Type} {g : Nat → Option α} {f : Nat → α → Option β} {P : α → Prop} {Q : β → Prop} (h : Gets g P) (k : ∀ a, P a → Gets (fun n => f n a) Q) : Gets (fun n => (g n).bind (f n)) Q := by
  obtain ⟨a, ha, hp⟩ := h
  obtain ⟨r, hr, hq⟩ := k a hp
  exact ⟨r, Ev.bind ha hr, hq⟩
theorem Gets.bindE {α β : Type} {g : Nat → Option α} {f : Nat → α → Option β} {a : α} {Q : β → Prop} (h : Ev g a) (k : Gets (fun n => f n a) Q) : Gets (fun n => (g n).bind (f n)) Q := by
  obtain ⟨r, hr, hq⟩ := k
  exact ⟨r, Ev.bind h hr, hq⟩
theorem Gets.mono {α : Type} {f : Nat → Option α} {P Q : α → Prop} (h : Gets f P) (k : ∀ a, P a → Q a) : Gets f Q := by
  obtain ⟨r, hr, hp⟩ := h
  exact ⟨r, hr, k r hp⟩
theorem Gets.rounds {α : Type} {f : Nat → Option α} {r : α} (h : Gets f (· = r)) : ∃ k, f k = some r := by
  obtain ⟨a, ha, rfl⟩ := h
  exact ha.rounds
theorem Gets.ev {α : Type} {f : Nat → Option α} {r : α} (h : Gets f (· = r)) : Ev f r := by
  obtain ⟨a, ha, rfl⟩ := h
  exact ha
theorem Ev.gets {α : Type} {f : Nat → Option α} {r : α} {Q : α → Prop} (h : Ev f r) (hq : Q r) : Gets f Q := ⟨r, h, hq⟩
theorem Gets.same {α : Type} {o : Option α} {Q : α → Prop} {r : α} (h : o = some r) (hq : Q r) : Gets (fun _ => o) Q := by
  subst h; exact Gets.ret hq
theorem wrapId {x : Int} (h0 : -9223372036854775808 ≤ x) (h1 : x ≤ 9223372036854775807) : wrap64 x = x := by
  unfold wrap64; omega
theorem i64_bd {n : Int} (h : (Lit.int .i64 n).wf = true) : -9223372036854775808 ≤ n ∧ n ≤ 9223372036854775807 := by
  have hm : IntKind.i64.min = -9223372036854775808 := rfl
  simp [Lit.wf, hm] at h
  exact h
theorem boolEq {a b : Bool} {P Q : Prop} (ha : a = true ↔ P) (hb : b = true ↔ Q) (h : P ↔ Q) : a = b := by
  rw [Bool.eq_iff_iff, ha, hb, h]
theorem tmod_nn {a b : Int} (h : 0 ≤ a) : Int.tmod a b = a % b := Int.tmod_eq_emod_of_nonneg h
theorem tdiv_nn {a b : Int} (h : 0 ≤ a) : Int.tdiv a b = a / b := Int.tdiv_eq_ediv_of_nonneg h

/-! ### rows of numbers -/
theorem rd_get {l : List Int} {i : Int} (h : i.toNat < l.length) : rd l i = l[i.toNat] := by
  unfold rd; rw [List.getD_eq_getElem?_getD, List.getElem?_eq_getElem h]; rfl
theorem fill_step {α : Type} (l : List α) (d : α) (i : Nat) (h : i < l.length) : (l.take i ++ List.replicate (l.length - i) d).set i l[i] = l.take (i + 1) ++ List.replicate (l.length - (i + 1)) d := by
  have e : List.replicate (l.length - i) d = d :: List.replicate (l.length - (i + 1)) d := by
    rw [show l.length - i = (l.length - (i + 1)) + 1 by omega]; rfl
  rw [e, List.set_append_right _ _ (by rw [List.length_take]; omega), List.length_take, show i - min i l.length = 0 by omega, List.set_cons_zero, List.take_succ_eq_append_getElem h, List.append_assoc]
  rfl
theorem drop_at {α : Type} (l : List α) (i : Nat) (h : i < l.length) : l.drop i = l[i] :: l.drop (i + 1) := List.drop_eq_getElem_cons h
def marks (k : Int) (n : Nat) : List Int := (List.range n).map (fun (i : Nat) => k + (i : Int))
theorem marks_length (k : Int) (n : Nat) : (marks k n).length = n := by simp [marks]
theorem marks_get (k : Int) (n i : Nat) (h : i < n) : (marks k n)[i]'(by rw [marks_length]; exact h) = k + i := by simp [marks]

/-! ### texts as lists of numbers -/
theorem bytesOf_inj {a b : ByteArray} (h : bytesOf a = bytesOf b) : a = b := by
  have hl : a.data.toList = b.data.toList := by
    unfold bytesOf at h
    exact List.map_inj_right (fun x y hxy => UInt8.toNat_inj.1 (by exact_mod_cast hxy)) |>.1 h
  have hd : a.data = b.data := Array.toList_inj.1 hl
  cases a; cases b; cases hd; rfl
theorem toList_iff (a b : ByteArray) : a.toList = b.toList ↔ a = b := by
  rw [Lib.toList_data, Lib.toList_data]
  exact ⟨fun h => bytesOf_inj (by unfold bytesOf; rw [h]), fun h => by rw [h]⟩
theorem bytesOf_range {s : ByteArray} {x : Int} (h : x ∈ bytesOf s) : 0 ≤ x ∧ x < 256 := by
  unfold bytesOf at h
  obtain ⟨b, _, rfl⟩ := List.mem_map.1 h
  have := b.toNat_lt
  omega
theorem bytesOf_str {xs : List Int} (h : ∀ x ∈ xs, 0 ≤ x ∧ x < 256) : bytesOf (strOfNums xs) = xs := by
  unfold bytesOf
  rw [strOfNums_data, List.map_map]
  conv => rhs; rw [← List.map_id xs]
  refine List.map_congr_left (fun x hx => ?_)
  have := h x hx
  simp only [Function.comp, UInt8.toNat_ofNat', id]
  omega
theorem str_bytesOf (s : ByteArray) : strOfNums (bytesOf s) = s := bytesOf_inj (bytesOf_str (fun _ => bytesOf_range))
theorem bytesOf_extract (s : ByteArray) (a b : Nat) : bytesOf (s.extract a b) = ((bytesOf s).drop a).take (b - a) := by
  unfold bytesOf
  rw [Lib.extract_data, List.map_take, List.map_drop]
theorem bytesOf_app (a b : ByteArray) : bytesOf (a ++ b) = bytesOf a ++ bytesOf b := by
  unfold bytesOf
  rw [← List.map_append]
  congr 1
  first | done | simp
theorem bt_getD (s : ByteArray) (i : Int) : bt s i = (bytesOf s).getD i.toNat 0 := (rd_bytesOf s i).symm
theorem bytesOf_empty : bytesOf (⟨#[]⟩ : ByteArray) = [] := rfl
theorem size_eq (s : ByteArray) : s.size = (bytesOf s).length := (bytesOf_length s).symm
theorem size_app (a b : ByteArray) : (a ++ b).size = a.size + b.size := by simp

theorem rdS_get {l : List ByteArray} {i : Int} (h : i.toNat < l.length) : rdOf ByteArray.empty l i = l[i.toNat] := by
  unfold rdOf; rw [List.getD_eq_getElem?_getD, List.getElem?_eq_getElem h]; rfl
def shortL (l : List ByteArray) : Bool := l.all (fun s => decide ((s.size : Int) ≤ 60))
theorem shortL_iff (l : List ByteArray) : shortL l = true ↔ ∀ s ∈ l, s.size ≤ 60 := by
  unfold shortL
  rw [List.all_eq_true]
  exact ⟨fun h s hs => by have := of_decide_eq_true (h s hs); omega, fun h s hs => decide_eq_true (by have := h s hs; omega)⟩
theorem shortL_cons (s : ByteArray) (l : List ByteArray) : shortL (s :: l) = (decide ((s.size : Int) ≤ 60) && shortL l) := rfl

def sizedS (l : List ByteArray) : Prop := l.length ≤ 1048576 ∧ ∀ m ∈ l, m.size ≤ 1048576
theorem szStringS_l0 (l : List ByteArray) (hl : l.length ≤ 1048576) (hg : ∀ m ∈ l, m.size ≤ maxLen) (d : Nat) : ∀ (i : Nat) (m : Int), l.length - i = d → i ≤ l.length → 0 ≤ m → m ≤ 1048576 → Gets (fun k => laws_szStringS.l0 k l m (i : Int)) (fun r => r < 0 ∨ (0 ≤ r ∧ r ≤ m ∧ ∀ x ∈ l.drop i, x.size ≤ 1048576)) := by
  induction d with
  | zero =>
    intro i m hd hi h0 h1
    refine Gets.step (fun k => laws_szStringS.l0.eq_2 ..) (Gets.neg (by omega) (Gets.ret (.inr ⟨h0, Int.le_refl _, ?_⟩)))
    rw [List.drop_of_length_le (by omega)]
    simp
  | succ d ih =>
    intro i m hd hi h0 h1
    refine Gets.step (fun k => laws_szStringS.l0.eq_2 ..) (Gets.pos (by omega) (Gets.pos (by omega) ?_))
    have hx := hg _ (List.getElem_mem (show i < l.length by omega))
    unfold maxLen at hx
    have e : rdOf ByteArray.empty l (i : Int) = l[i] := rdS_get (by omega)
    simp only [e]
    rw [wrapId (x := m - (l[i].size : Int)) (by omega) (by omega), wrapId (x := (i : Int) + 1) (by omega) (by omega), drop_at l i (by omega)]
    rw [show ((i : Int) + 1) = ((i + 1 : Nat) : Int) by omega]
    refine Gets.ite (fun h => Gets.ret (.inl (by omega))) (fun h => ?_)
    refine (ih (i + 1) _ (by omega) (by omega) (by omega) (by omega)).mono (fun r hr => ?_)
    rcases hr with hr | ⟨h2, h3, h4⟩
    · exact .inl hr
    · refine .inr ⟨h2, by omega, fun x hx => ?_⟩
      rcases List.mem_cons.1 hx with rfl | hx
      · omega
      · exact h4 x hx
theorem szStringS (l : List ByteArray) (m : Int) (hm : 0 ≤ m ∧ m ≤ 1048576) (hl : l.length ≤ maxLen) (hg : ∀ m ∈ l, m.size ≤ maxLen) : Gets (fun k => laws_szStringS.f k l m) (fun r => r < 0 ∨ (0 ≤ r ∧ r ≤ m ∧ sizedS l)) := by
  unfold maxLen at hl
  unfold laws_szStringS.f
  rw [wrapId (by omega) (by omega)]
  refine Gets.ite (fun h => Gets.ret (.inl (by omega))) (fun h => ?_)
  refine (szStringS_l0 l (by omega) hg l.length 0 _ (by omega) (by omega) (by omega) (by omega)).mono (fun r hr => ?_)
  rcases hr with hr | ⟨h2, h3, h4⟩
  · exact .inl hr
  · exact .inr ⟨h2, by omega, by omega, fun x hx => h4 x (by simpa using hx)⟩

theorem toStringS_l0 (l : List ByteArray) (hl : l.length ≤ 17592186044416) (d : Nat) : ∀ i : Nat, l.length - i = d → i ≤ l.length → Gets (fun k => laws_toStringS.l0 k l (l.take i ++ List.replicate (l.length - i) (⟨#[]⟩ : ByteArray)) (i : Int)) (· = l) := by
  induction d with
  | zero =>
    intro i hd hi
    refine Gets.step (fun k => laws_toStringS.l0.eq_2 ..) (Gets.neg (by omega) (Gets.ret ?_))
    rw [show i = l.length by omega]
    simp
  | succ d ih =>
    intro i hd hi
    refine Gets.step (fun k => laws_toStringS.l0.eq_2 ..) (Gets.pos (by omega) (Gets.pos (by omega) (Gets.pos (by simp; omega) ?_)))
    rw [rdS_get (by omega), wrapId (by omega) (by omega)]
    simp only [Int.toNat_natCast]
    rw [fill_step l (⟨#[]⟩ : ByteArray) i (by omega), show ((i : Int) + 1) = ((i + 1 : Nat) : Int) by omega]
    exact ih (i + 1) (by omega) (by omega)
theorem toStringS (l : List ByteArray) (hl : l.length ≤ 17592186044416) : Gets (fun k => laws_toStringS.f k l) (· = l) := by
  unfold laws_toStringS.f
  refine Gets.pos (by omega) (Gets.pos (by omega) ?_)
  exact toStringS_l0 l hl l.length 0 (by omega) (by omega)

theorem eqStringS_l0 (a b : List ByteArray) (ha : a.length ≤ 35184372088832) (hab : a.length = b.length) (d : Nat) : ∀ i : Nat, a.length - i = d → i ≤ a.length → Gets (fun k => laws_eqStringS.l0 k a b (i : Int)) (fun r => r = true ↔ a.drop i = b.drop i) := by
  induction d with
  | zero =>
    intro i hd hi
    refine Gets.step (fun k => laws_eqStringS.l0.eq_2 ..) (Gets.neg (by omega) (Gets.ret ?_))
    rw [List.drop_of_length_le (by omega), List.drop_of_length_le (by omega)]
    simp
  | succ d ih =>
    intro i hd hi
    refine Gets.step (fun k => laws_eqStringS.l0.eq_2 ..) (Gets.pos (by omega) (Gets.pos (by omega) (Gets.pos (by omega) ?_)))
    have e1 : rdOf ByteArray.empty a (i : Int) = a[i] := rdS_get (by omega)
    have e2 : rdOf ByteArray.empty b (i : Int) = b[i] := rdS_get (by omega)
    simp only [e1, e2]
    rw [wrapId (by omega) (by omega), drop_at a i (by omega), drop_at b i (by omega)]
    refine Gets.ite (fun h => ?_) (fun h => Gets.ret ?_)
    · rw [show ((i : Int) + 1) = ((i + 1 : Nat) : Int) by omega]
      refine (ih (i + 1) (by omega) (by omega)).mono (fun r hr => ?_)
      rw [hr]
      simp only [List.cons.injEq, (toList_iff _ _).1 h, true_and]
    · have hne : ¬ a[i] = b[i] := fun e => h (by rw [e])
      simp only [List.cons.injEq, hne, false_and, Bool.false_eq_true]
theorem eqStringS (a b : List ByteArray) (ha : a.length ≤ 35184372088832) : Gets (fun k => laws_eqStringS.f k a b) (fun r => r = true ↔ a = b) := by
  unfold laws_eqStringS.f
  refine Gets.ite (fun h => ?_) (fun h => Gets.ret ?_)
  · exact eqStringS_l0 a b ha (by omega) a.length 0 (by omega) (by omega)
  · simp only [Bool.false_eq_true, false_iff]
    rintro rfl
    exact h rfl
theorem eqStringS_true (a : List ByteArray) (ha : a.length ≤ 35184372088832) : Gets (fun k => laws_eqStringS.f k a a) (fun r => r = true) := (eqStringS a a ha).mono (fun r hr => hr.2 rfl)

theorem szEnd (a b : Int) (q : List ByteArray) (c : Int) (o : List ByteArray) (m : Int) (hm : 0 ≤ m ∧ m ≤ 1048576) (hq : q.length ≤ maxLen ∧ ∀ m ∈ q, m.size ≤ maxLen) (ho : o.length ≤ maxLen ∧ ∀ m ∈ o, m.size ≤ maxLen) : Gets (fun k => laws_szEnd.f k a b q c o m) (fun r => r < 0 ∨ (0 ≤ r ∧ r ≤ m ∧ sizedS q ∧ sizedS o)) := by
  unfold laws_szEnd.f
  refine Gets.bind (szStringS q m hm hq.1 hq.2) (fun r hr => Gets.ite (fun h => Gets.ret (.inl (by omega))) (fun h => ?_))
  obtain ⟨h1, h2, h3⟩ := hr.resolve_left h
  refine Gets.bind (szStringS o r (by omega) ho.1 ho.2) (fun r2 hr2 => Gets.ite (fun h => Gets.ret (.inl (by omega))) (fun h => Gets.ret (.inr ?_)))
  obtain ⟨h4, h5, h6⟩ := hr2.resolve_left h
  exact ⟨h4, by omega, h3, h6⟩
theorem toEnd (a b : Int) (q : List ByteArray) (c : Int) (o : List ByteArray) (hq : q.length ≤ 17592186044416) (ho : o.length ≤ 17592186044416) : Gets (fun k => laws_toEnd.f k a b q c o) (· = (a, b, q, c, o)) := by
  unfold laws_toEnd.f
  exact Gets.bindE (toStringS q hq).ev (Gets.bindE (toStringS o ho).ev (Gets.ret rfl))
theorem eqEnd_true (a b : Int) (q : List ByteArray) (c : Int) (o : List ByteArray) (hq : q.length ≤ 17592186044416) (ho : o.length ≤ 17592186044416) : Gets (fun k => laws_eqEnd.f k a b q c o a b q c o) (fun r => r = true) := by
  unfold laws_eqEnd.f
  refine Gets.pos rfl (Gets.pos rfl (Gets.bind (eqStringS_true q (by omega)) (fun t ht => Gets.pos ht (Gets.pos rfl (Gets.bind (eqStringS_true o (by omega)) (fun t ht => Gets.pos ht (Gets.ret rfl)))))))

theorem markText_l0 (d : Nat) : ∀ (n : Nat) (s : ByteArray), n < 10 ^ d → s.size + d ≤ 1000 → n ≤ 9000000000 → ∃ t, Ev (fun k => laws_markText.l0 k (n : Int) s) t := by
  induction d with
  | zero =>
    intro n s h hs hn
    have e : Gets (fun k => laws_markText.l0 k (n : Int) s) (fun _ => True) := Gets.step (fun k => laws_markText.l0.eq_2 ..) (Gets.neg (by omega) (Gets.pos (by omega) (Gets.ret trivial)))
    obtain ⟨t, ht, _⟩ := e
    exact ⟨t, ht⟩
  | succ d ih =>
    intro n s h hs hn
    have e : Gets (fun k => laws_markText.l0 k (n : Int) s) (fun _ => True) := by
      refine Gets.step (fun k => laws_markText.l0.eq_2 ..) (Gets.ite (fun h1 => ?_) (fun h1 => Gets.pos (by omega) (Gets.ret trivial)))
      simp only [Option.bind_some]
      refine Gets.pos (by rw [strOfNums_size]; simp; omega) ?_
      rw [tdiv_nn (by omega), wrapId (x := (n : Int) / 10) (by omega) (by omega), show (n : Int) / 10 = ((n / 10 : Nat) : Int) by omega]
      obtain ⟨t, ht⟩ := ih (n / 10) (strOfNums [(wrap64 (48 + (Int.tmod n 10))) % 256] ++ s) (by
        have : (10 : Nat) ^ (d + 1) = 10 ^ d * 10 := Nat.pow_succ ..
        rw [Nat.div_lt_iff_lt_mul (by omega)]; omega) (by simp [strOfNums_size]; omega) (by omega)
      exact Ev.gets ht trivial
    obtain ⟨t, ht, _⟩ := e
    exact ⟨t, ht⟩
theorem markText_some (n : Int) (h0 : 0 ≤ n) (h1 : n ≤ 9000000000) : ∃ t, Ev (fun k => laws_markText.f k n) t := by
  by_cases h : n ≤ 0
  · exact ⟨_, (Gets.pos (f := fun _ => some (⟨#[109, 48]⟩ : ByteArray)) (g := fun k => laws_markText.l0 k n (⟨#[]⟩ : ByteArray)) (Q := (· = (⟨#[109, 48]⟩ : ByteArray))) h (Gets.ret rfl)).ev⟩
  · obtain ⟨m, rfl⟩ := Int.eq_ofNat_of_zero_le h0
    obtain ⟨t, ht⟩ := markText_l0 10 m (⟨#[]⟩ : ByteArray) (by have : (10 : Nat) ^ 10 = 10000000000 := by decide
                                                               omega) (by decide) (by omega)
    exact ⟨t, (Gets.neg (f := fun _ => some (⟨#[109, 48]⟩ : ByteArray)) h (Ev.gets (Q := (· = t)) ht rfl)).ev⟩
/-- The text that marks n. -/
noncomputable def mtx (n : Int) : ByteArray := if h : 0 ≤ n ∧ n ≤ 9000000000 then Classical.choose (markText_some n h.1 h.2) else ⟨#[]⟩
theorem markText (n : Int) (h0 : 0 ≤ n) (h1 : n ≤ 9000000000) : Ev (fun k => laws_markText.f k n) (mtx n) := by
  unfold mtx
  rw [dif_pos ⟨h0, h1⟩]
  exact Classical.choose_spec (markText_some n h0 h1)

noncomputable def marksS (k : Int) (n : Nat) : List ByteArray := (List.range n).map (fun (i : Nat) => mtx (k + (i : Int)))
theorem marksS_length (k : Int) (n : Nat) : (marksS k n).length = n := by simp [marksS]
theorem marksS_get (k : Int) (n i : Nat) (h : i < n) : (marksS k n)[i]'(by rw [marksS_length]; exact h) = mtx (k + i) := by simp [marksS]
theorem markStringS_l0 (n : Nat) (m : Int) (hn : n ≤ 9000000) (hm : 0 ≤ m ∧ m ≤ 900000000) (d : Nat) : ∀ (i : Nat) (l : List ByteArray), n - i = d → i ≤ n → l.length = n → l.take i = marksS m i → Gets (fun k => laws_markStringS.l0 k l (m + i) (i : Int)) (· = (m + n, marksS m n)) := by
  induction d with
  | zero =>
    intro i l hd hi hl ht
    refine Gets.step (fun k => laws_markStringS.l0.eq_2 ..) (Gets.neg (by omega) (Gets.ret ?_))
    obtain rfl : i = n := by omega
    rw [List.take_of_length_le (by omega)] at ht
    rw [ht]
  | succ d ih =>
    intro i l hd hi hl ht
    refine Gets.step (fun k => laws_markStringS.l0.eq_2 ..) (Gets.pos (by omega) ?_)
    refine Gets.bindE (markText _ (by omega) (by omega)) (Gets.pos (by omega) ?_)
    rw [wrapId (by omega) (by omega), wrapId (by omega) (by omega)]
    simp only [Int.toNat_natCast]
    rw [show ((i : Int) + 1) = ((i + 1 : Nat) : Int) by omega, show m + (i : Int) + 1 = m + ((i + 1 : Nat) : Int) by omega]
    refine ih (i + 1) _ (by omega) (by omega) (by simpa using hl) ?_
    have hlt : i < (l.set i (mtx (m + i))).length := by rw [List.length_set]; omega
    rw [List.take_succ_eq_append_getElem hlt, List.getElem_set_self, List.take_set_of_le (by omega), ht]
    simp [marksS, List.range_succ]
theorem markStringS (l : List ByteArray) (m : Int) (hn : l.length ≤ 9000000) (hm : 0 ≤ m ∧ m ≤ 900000000) : Gets (fun k => laws_markStringS.f k l m) (· = (m + l.length, marksS m l.length)) := by
  unfold laws_markStringS.f
  have h := markStringS_l0 l.length m hn hm l.length 0 l (by omega) (by omega) rfl (by simp [marksS])
  simpa using h
theorem heldStringS_l0 (n : Nat) (m : Int) (hn : n ≤ 9000000) (hm : 0 ≤ m ∧ m ≤ 900000000) (d : Nat) : ∀ (i : Nat), n - i = d → i ≤ n → Gets (fun k => laws_heldStringS.l0 k (marksS m n) (m + i) (i : Int)) (· = m + n) := by
  induction d with
  | zero =>
    intro i hd hi
    refine Gets.step (fun k => laws_heldStringS.l0.eq_2 ..) (Gets.neg (by rw [marksS_length]; omega) (Gets.ret ?_))
    rw [show i = n by omega]
  | succ d ih =>
    intro i hd hi
    have e : rdOf ByteArray.empty (marksS m n) (i : Int) = mtx (m + i) := by
      rw [rdS_get (by rw [marksS_length]; omega)]
      exact marksS_get m n i (by omega)
    refine Gets.step (fun k => laws_heldStringS.l0.eq_2 ..) (Gets.pos (by rw [marksS_length]; omega) (Gets.pos (by omega) ?_))
    simp only [e]
    rw [wrapId (by omega) (by omega), wrapId (by omega) (by omega)]
    refine Gets.bindE (markText _ (by omega) (by omega)) (Gets.pos rfl ?_)
    rw [show ((i : Int) + 1) = ((i + 1 : Nat) : Int) by omega, show m + (i : Int) + 1 = m + ((i + 1 : Nat) : Int) by omega]
    exact ih (i + 1) (by omega) (by omega)
theorem heldStringS (m : Int) (n : Nat) (hn : n ≤ 9000000) (hm : 0 ≤ m ∧ m ≤ 900000000) : Gets (fun k => laws_heldStringS.f k (marksS m n) m) (· = m + n) := by
  unfold laws_heldStringS.f
  have h := heldStringS_l0 n m hn hm n 0 (by omega) (by omega)
  simpa using h

theorem markEnd (a b : Int) (q : List ByteArray) (c : Int) (o : List ByteArray) (hq : q.length ≤ 9000000) (ho : o.length ≤ 9000000) : Gets (fun k => laws_markEnd.f k a b q c o 1) (· = (1 + (q.length : Int) + o.length, marksS 1 q.length, marksS (1 + q.length) o.length)) := by
  unfold laws_markEnd.f
  refine Gets.bindE (markStringS q 1 hq (by omega)).ev (Gets.bindE (markStringS o (1 + q.length) ho (by omega)).ev (Gets.ret rfl))
theorem heldEnd (a b c : Int) (m n : Nat) (hq : m ≤ 9000000) (ho : n ≤ 9000000) : Gets (fun k => laws_heldEnd.f k a b (marksS 1 m) c (marksS (1 + m) n) 1) (· = 1 + (m : Int) + n) := by
  unfold laws_heldEnd.f
  exact Gets.bindE (heldStringS 1 m hq (by omega)).ev (Gets.neg (by omega) (Gets.bindE (heldStringS (1 + m) n ho (by omega)).ev (Gets.neg (by omega) (Gets.ret rfl))))

def endP (nx ac : Int) (q : List ByteArray) (got : Int) (out : List ByteArray) : Prop := (0 ≤ ac ∧ ac ≤ 1000) ∧ (ac ≤ nx ∧ nx ≤ ac + 4) ∧ (nx - ac ≤ (q.length : Int) ∧ (q.length : Int) ≤ 30) ∧ (0 ≤ got ∧ got ≤ 1000) ∧ (out.length : Int) = got ∧ shortL q = true ∧ shortL out = true

instance endDec (nx ac : Int) (q : List ByteArray) (got : Int) (out : List ByteArray) : Decidable (endP nx ac q got out) := by unfold endP; infer_instance
def offerT (nx ac : Int) (q : List ByteArray) (got : Int) (out : List ByteArray) (t : ByteArray) : Int × Int × List ByteArray × Int × List ByteArray × Bool :=
  if t.size ≤ 60 ∧ q.length < 30 ∧ ac + q.length < 1000 ∧ endP nx ac q got out then (nx, ac, q ++ [t], got, out, true) else (0, 0, [], 0, [], false)
theorem offer_len (nx ac : Int) (q : List ByteArray) (got : Int) (out : List ByteArray) (t : ByteArray) : (offerT nx ac q got out t).2.2.1.length ≤ 30 ∧ (offerT nx ac q got out t).2.2.2.2.1.length ≤ 1000 := by
  unfold offerT
  split
  · rename_i h
    obtain ⟨_, h2, _, h⟩ := h
    unfold endP at h
    simp only [List.length_append, List.length_cons, List.length_nil]
    omega
  · simp

def recvI (nx ac : Int) (q : List ByteArray) (got : Int) (out : List ByteArray) (num : Int) (t : ByteArray) : Int × Int × List ByteArray × Int × List ByteArray × Bool :=
  if num = got + 1 ∧ got < 1000 then (nx, ac, q, got + 1, out ++ [t], true) else (nx, ac, q, got, out, false)
def recvT (nx ac : Int) (q : List ByteArray) (got : Int) (out : List ByteArray) (num ack : Int) (t : ByteArray) : Int × Int × List ByteArray × Int × List ByteArray × Bool :=
  if num < 0 ∨ t.size > 60 ∨ ¬ endP nx ac q got out then (nx, ac, q, got, out, false)
  else if ack > ac ∧ ack ≤ nx then recvI nx ack (q.drop (ack - ac).toNat) got out num t else recvI nx ac q got out num t

theorem areShort_l0 (l : List ByteArray) (hl : l.length ≤ 35184372088832) (d : Nat) : ∀ i : Nat, l.length - i = d → i ≤ l.length → Gets (fun k => impl_areShort.l0 k l (l.length : Int) (i : Int)) (· = shortL (l.drop i)) := by
  induction d with
  | zero =>
    intro i hd hi
    refine Gets.step (fun k => impl_areShort.l0.eq_2 ..) (Gets.neg (by omega) (Gets.ret ?_))
    rw [List.drop_of_length_le (by omega)]; rfl
  | succ d ih =>
    intro i hd hi
    refine Gets.step (fun k => impl_areShort.l0.eq_2 ..) (Gets.pos (by omega) (Gets.pos (by omega) (Gets.pos (by omega) ?_)))
    have e : rdOf ByteArray.empty l (i : Int) = l[i] := rdS_get (by omega)
    simp only [e]
    rw [wrapId (by omega) (by omega), drop_at l i (by omega), shortL_cons]
    refine Gets.ite (fun h => Gets.ret (by rw [decide_eq_false (by omega)]; rfl)) (fun h => ?_)
    rw [show ((i : Int) + 1) = ((i + 1 : Nat) : Int) by omega]
    refine (ih (i + 1) (by omega) (by omega)).mono (fun r hr => ?_)
    rw [hr, decide_eq_true (by omega)]; rfl
theorem areShort (l : List ByteArray) (hl : l.length ≤ 35184372088832) : Gets (fun k => impl_areShort.f k l) (· = shortL l) := by
  unfold impl_areShort.f
  exact areShort_l0 l hl l.length 0 (by omega) (by omega)

theorem inR (x a b : Int) : impl_inRange.f x a b = some (decide (a ≤ x ∧ x ≤ b)) := by
  unfold impl_inRange.f
  by_cases h : x ≥ a
  · rw [if_pos h]; simp [show a ≤ x from h]
  · rw [if_neg h]; simp [show ¬ a ≤ x from h]

theorem implEndOk (nx ac : Int) (q : List ByteArray) (got : Int) (out : List ByteArray) (hn : -9223372036854775808 ≤ nx ∧ nx ≤ 9223372036854775807) (hq : q.length ≤ 35184372088832) (ho : out.length ≤ 35184372088832) : Gets (fun k => impl_EndOk.f k nx ac q got out) (fun r => r = true ↔ endP nx ac q got out) := by
  have no : ∀ c, c = true → ¬ endP nx ac q got out → Gets (fun k => impl_EndOk.j0 k c nx ac q got out) (fun r => r = true ↔ endP nx ac q got out) := fun c hc h =>
    Gets.step (fun k => impl_EndOk.j0.eq_2 ..) (Gets.pos hc (Gets.ret (by simp [h])))
  have nf : ¬ endP nx ac q got out → Gets (fun _ => some false) (fun r => r = true ↔ endP nx ac q got out) := fun h => Gets.ret (by simp [h])
  unfold impl_EndOk.f
  simp only [inR, Option.bind_some, decide_eq_true_eq]
  refine Gets.ite (fun h1 => ?_) (fun h1 => no _ rfl (fun h => h1 h.1))
  rw [wrapId (x := ac + 4) (by omega) (by omega)]
  refine Gets.ite (fun h2 => ?_) (fun h2 => no _ rfl (fun h => h2 h.2.1))
  rw [wrapId (x := nx - ac) (by omega) (by omega)]
  by_cases h3 : nx - ac ≤ (q.length : Int) ∧ (q.length : Int) ≤ 30
  · refine Gets.step (fun k => impl_EndOk.j0.eq_2 ..) (Gets.neg (by simp only [decide_eq_true h3]; simp) ?_)
    simp only [inR, Option.bind_some, decide_eq_true_eq]
    refine Gets.ite (fun h4 => Gets.ite (fun h5 => ?_) (fun h5 => nf (fun h => h5 h.2.2.2.2.1))) (fun h4 => nf (fun h => h4 h.2.2.2.1))
    refine Gets.bindE (areShort q hq).ev (Gets.ite (fun h6 => ?_) (fun h6 => nf (fun h => h6 h.2.2.2.2.2.1)))
    exact Gets.bindE (areShort out ho).ev (Gets.ret ⟨fun h7 => ⟨h1, h2, h3, h4, h5, h6, h7⟩, fun h => h.2.2.2.2.2.2⟩)
  · exact no _ (by simp only [decide_eq_false h3]; rfl) (fun h => h3 h.2.2.1)

theorem implCopyEnd (a b : Int) (q : List ByteArray) (c : Int) (o : List ByteArray) (hq : q.length ≤ 1048576) (ho : o.length ≤ 1048576) : impl_copyEnd.f a b q c o = some (a, b, q, c, o) := by
  unfold impl_copyEnd.f slices_Clone_string_string.f
  simp only [Option.bind_some, List.length_nil, List.nil_append]
  rw [if_pos (by omega), if_pos (by omega)]
  rfl
theorem implRecv_j1 (nx ac : Int) (q : List ByteArray) (got : Int) (out : List ByteArray) (num ack : Int) (t : ByteArray) (h : endP nx ac q got out) (b : Bool) (hb : b = true ↔ (ack > ac ∧ ack ≤ nx)) :
    Gets (fun k => impl_Receive.j1 k b nx ac q got out num ack t nx ac q got out) (· = if ack > ac ∧ ack ≤ nx then recvI nx ack (q.drop (ack - ac).toNat) got out num t else recvI nx ac q got out num t) := by
  obtain ⟨h1, h2, h3, h4, h5, _⟩ := h
  have fin : ∀ (a' : Int) (q' : List ByteArray), Gets (fun _ => if num = wrap64 (got + 1) then (if got ≥ 1000 then (some (nx, a', q', got, out, false)) else (if out.length < 8796093022208 then (some (nx, a', q', wrap64 (got + 1), (out ++ [t]), true)) else (none))) else (some (nx, a', q', got, out, false))) (· = recvI nx a' q' got out num t) := by
    intro a' q'
    rw [wrapId (x := got + 1) (by omega) (by omega)]
    unfold recvI
    refine Gets.ite (fun hn => Gets.ite (fun hg => Gets.ret ?_) (fun hg => Gets.pos (by omega) (Gets.ret ?_))) (fun hn => Gets.ret ?_)
    · rw [if_neg (by omega)]
    · rw [if_pos ⟨hn, by omega⟩]
    · rw [if_neg (fun e => hn e.1)]
  refine Gets.step (fun k => impl_Receive.j1.eq_2 ..) (Gets.ite (fun h => ?_) (fun h => ?_))
  · have hk := hb.1 h
    rw [if_pos hk, wrapId (x := ack - ac) (by omega) (by omega)]
    refine Gets.pos (by omega) (Gets.pos (by omega) ?_)
    simp only [Option.bind_some]
    exact fin _ _
  · rw [if_neg (fun e => h (hb.2 e))]
    exact fin _ _
theorem implRecv (nx ac : Int) (q : List ByteArray) (got : Int) (out : List ByteArray) (num ack : Int) (t : ByteArray) (hn : -9223372036854775808 ≤ nx ∧ nx ≤ 9223372036854775807) (hq : q.length ≤ 1048576) (ho : out.length ≤ 1048576) :
    Gets (fun k => impl_Receive.f k nx ac q got out num ack t) (· = recvT nx ac q got out num ack t) := by
  unfold impl_Receive.f recvT
  rw [implCopyEnd nx ac q got out hq ho]
  simp only [Option.bind_some]
  have no : ∀ b, b = true → Gets (fun k => impl_Receive.j0 k b nx ac q got out num ack t nx ac q got out) (· = (nx, ac, q, got, out, false)) := fun b hb => Gets.step (fun k => impl_Receive.j0.eq_2 ..) (Gets.pos hb (Gets.ret rfl))
  refine Gets.ite (fun h => ?_) (fun h1 => Gets.ite (fun h => ?_) (fun h2 => ?_))
  · rw [if_pos (.inl h)]; exact no _ rfl
  · rw [if_pos (.inr (.inl (by omega)))]; exact no _ rfl
  · refine Gets.bind (implEndOk nx ac q got out hn (by omega) (by omega)) (fun r hr => ?_)
    by_cases hE : endP nx ac q got out
    · rw [if_neg (by rintro (h | h | h); exact h1 h; omega; exact h hE), hr.2 hE]
      refine Gets.step (fun k => impl_Receive.j0.eq_2 ..) (Gets.neg (by simp) (Gets.ite (fun h => ?_) (fun h => ?_)))
      · exact implRecv_j1 nx ac q got out num ack t hE _ ⟨fun h3 => ⟨h, of_decide_eq_true h3⟩, fun h3 => decide_eq_true h3.2⟩
      · exact implRecv_j1 nx ac q got out num ack t hE _ ⟨fun h3 => by simp at h3, fun h3 => absurd h3.1 h⟩
    · rw [if_pos (.inr (.inr hE))]
      have hr0 : r = false := by
        cases r with
        | false => rfl
        | true => exact absurd (hr.1 rfl) hE
      exact no _ (by rw [hr0]; rfl)

theorem inS (x a b : Int) : spec_l01In.f x a b = some (decide (a ≤ x ∧ x ≤ b)) := by
  unfold spec_l01In.f
  by_cases h : x ≥ a
  · rw [if_pos h]; simp [show a ≤ x from h]
  · rw [if_neg h]; simp [show ¬ a ≤ x from h]

theorem specEnd_l1 (a b : Int) (q : List ByteArray) (c : Int) (l : List ByteArray) (hl : l.length ≤ 35184372088832) (d : Nat) : ∀ i : Nat, l.length - i = d → i ≤ l.length → Gets (fun k => spec_EndOk.l1 k (i : Int) a b q c l) (· = shortL (l.drop i)) := by
  induction d with
  | zero =>
    intro i hd hi
    refine Gets.step (fun k => spec_EndOk.l1.eq_2 ..) (Gets.neg (by omega) (Gets.ret ?_))
    rw [List.drop_of_length_le (by omega)]; rfl
  | succ d ih =>
    intro i hd hi
    refine Gets.step (fun k => spec_EndOk.l1.eq_2 ..) (Gets.pos (by omega) (Gets.pos (by omega) ?_))
    have e : rdOf ByteArray.empty l (i : Int) = l[i] := rdS_get (by omega)
    simp only [e]
    rw [wrapId (by omega) (by omega), drop_at l i (by omega), shortL_cons]
    refine Gets.ite (fun h => Gets.ret (by rw [decide_eq_false (by omega)]; rfl)) (fun h => ?_)
    rw [show ((i : Int) + 1) = ((i + 1 : Nat) : Int) by omega]
    refine (ih (i + 1) (by omega) (by omega)).mono (fun r hr => ?_)
    rw [hr, decide_eq_true (by omega)]; rfl
theorem specEnd_l0 (a b : Int) (l : List ByteArray) (c : Int) (o : List ByteArray) (hl : l.length ≤ 35184372088832) (ho : o.length ≤ 35184372088832) (d : Nat) : ∀ i : Nat, l.length - i = d → i ≤ l.length → Gets (fun k => spec_EndOk.l0 k (i : Int) a b l c o) (· = (shortL (l.drop i) && shortL o)) := by
  induction d with
  | zero =>
    intro i hd hi
    refine Gets.step (fun k => spec_EndOk.l0.eq_2 ..) (Gets.neg (by omega) ?_)
    rw [List.drop_of_length_le (by omega)]
    exact (specEnd_l1 a b l c o ho o.length 0 (by omega) (by omega)).mono (fun r hr => by rw [hr]; rfl)
  | succ d ih =>
    intro i hd hi
    refine Gets.step (fun k => spec_EndOk.l0.eq_2 ..) (Gets.pos (by omega) (Gets.pos (by omega) ?_))
    have e : rdOf ByteArray.empty l (i : Int) = l[i] := rdS_get (by omega)
    simp only [e]
    rw [wrapId (by omega) (by omega), drop_at l i (by omega), shortL_cons]
    refine Gets.ite (fun h => Gets.ret (by rw [decide_eq_false (by omega)]; rfl)) (fun h => ?_)
    rw [show ((i : Int) + 1) = ((i + 1 : Nat) : Int) by omega]
    refine (ih (i + 1) (by omega) (by omega)).mono (fun r hr => ?_)
    rw [hr, decide_eq_true (show (l[i].size : Int) ≤ 60 by omega)]; rfl
theorem specEndOk (nx ac : Int) (q : List ByteArray) (got : Int) (out : List ByteArray) (hn : -9223372036854775808 ≤ nx ∧ nx ≤ 9223372036854775807) (hq : q.length ≤ 35184372088832) (ho : out.length ≤ 35184372088832) : Gets (fun k => spec_EndOk.f k nx ac q got out) (fun r => r = true ↔ endP nx ac q got out) := by
  have no : ∀ c, c = true → ¬ endP nx ac q got out → Gets (fun k => spec_EndOk.j0 k c nx ac q got out) (fun r => r = true ↔ endP nx ac q got out) := fun c hc h =>
    Gets.step (fun k => spec_EndOk.j0.eq_2 ..) (Gets.pos hc (Gets.ret (by simp [h])))
  unfold spec_EndOk.f
  simp only [inS, Option.bind_some, decide_eq_true_eq]
  refine Gets.ite (fun h1 => ?_) (fun h1 => no _ rfl (fun h => h1 h.1))
  rw [wrapId (x := ac + 4) (by omega) (by omega)]
  refine Gets.ite (fun h2 => ?_) (fun h2 => no _ rfl (fun h => h2 h.2.1))
  rw [wrapId (x := nx - ac) (by omega) (by omega)]
  refine Gets.ite (fun h3 => no _ rfl (fun h => by have := h.2.2.1; omega)) (fun h3 => Gets.ite (fun h4 => no _ rfl (fun h => by have := h.2.2.1; omega)) (fun h4 => Gets.ite (fun h5 => ?_) (fun h5 => no _ rfl (fun h => h5 h.2.2.2.1))))
  by_cases h6 : (out.length : Int) = got
  · refine Gets.step (fun k => spec_EndOk.j0.eq_2 ..) (Gets.neg (by simp [h6]) ?_)
    refine (specEnd_l0 nx ac q got out hq ho q.length 0 (by omega) (by omega)).mono (fun r hr => ?_)
    rw [hr]
    simp only [List.drop_zero, Bool.and_eq_true]
    exact ⟨fun h7 => ⟨h1, h2, ⟨by omega, by omega⟩, h5, h6, h7.1, h7.2⟩, fun h => h.2.2.2.2.2⟩
  · exact no _ (by simp [h6]) (fun h => h6 h.2.2.2.2.1)

theorem specCopyEnd (a b : Int) (q : List ByteArray) (c : Int) (o : List ByteArray) (hq : q.length ≤ 1048576) (ho : o.length ≤ 1048576) : spec_l06Copy.f a b q c o = some (a, b, q, c, o) := by
  unfold spec_l06Copy.f
  simp only [Option.bind_some, List.length_nil, List.nil_append]
  rw [if_pos (by omega), if_pos (by omega)]
theorem specRecv_j1 (nx ac : Int) (q : List ByteArray) (got : Int) (out : List ByteArray) (num ack : Int) (t : ByteArray) (h : endP nx ac q got out) (b : Bool) (hb : b = true ↔ (ack > ac ∧ ack ≤ nx)) :
    Gets (fun k => spec_Receive.j1 k b num ack t nx ac q got out) (· = if ack > ac ∧ ack ≤ nx then recvI nx ack (q.drop (ack - ac).toNat) got out num t else recvI nx ac q got out num t) := by
  obtain ⟨h1, h2, h3, h4, h5, _⟩ := h
  have fin : ∀ (a' : Int) (q' : List ByteArray), Gets (fun _ => if num = wrap64 (got + 1) then (if got ≥ 1000 then (some (nx, a', q', got, out, false)) else (if out.length < 8796093022208 then (some (nx, a', q', wrap64 (got + 1), (out ++ [t]), true)) else (none))) else (some (nx, a', q', got, out, false))) (· = recvI nx a' q' got out num t) := by
    intro a' q'
    rw [wrapId (x := got + 1) (by omega) (by omega)]
    unfold recvI
    refine Gets.ite (fun hn => Gets.ite (fun hg => Gets.ret ?_) (fun hg => Gets.pos (by omega) (Gets.ret ?_))) (fun hn => Gets.ret ?_)
    · rw [if_neg (by omega)]
    · rw [if_pos ⟨hn, by omega⟩]
    · rw [if_neg (fun e => hn e.1)]
  refine Gets.step (fun k => spec_Receive.j1.eq_2 ..) (Gets.ite (fun h => ?_) (fun h => ?_))
  · have hk := hb.1 h
    rw [if_pos hk, wrapId (x := ack - ac) (by omega) (by omega)]
    simp only [Option.bind_some, List.length_nil, List.nil_append]
    refine Gets.pos (by omega) (Gets.pos (by omega) (Gets.pos (by rw [List.length_drop]; omega) ?_))
    exact fin _ _
  · rw [if_neg (fun e => h (hb.2 e))]
    exact fin _ _
theorem specRecv (nx ac : Int) (q : List ByteArray) (got : Int) (out : List ByteArray) (num ack : Int) (t : ByteArray) (hn : -9223372036854775808 ≤ nx ∧ nx ≤ 9223372036854775807) (hq : q.length ≤ 1048576) (ho : out.length ≤ 1048576) :
    Gets (fun k => spec_Receive.f k nx ac q got out num ack t) (· = recvT nx ac q got out num ack t) := by
  unfold spec_Receive.f recvT
  rw [specCopyEnd nx ac q got out hq ho]
  simp only [Option.bind_some]
  have no : ∀ b, b = true → Gets (fun k => spec_Receive.j0 k b num ack t nx ac q got out) (· = (nx, ac, q, got, out, false)) := fun b hb => Gets.step (fun k => spec_Receive.j0.eq_2 ..) (Gets.pos hb (Gets.ret rfl))
  refine Gets.bind (specEndOk nx ac q got out hn (by omega) (by omega)) (fun r hr => Gets.ite (fun hE => ?_) (fun hE => ?_))
  · have hE := hr.1 hE
    refine Gets.ite (fun h => ?_) (fun h1 => ?_)
    · rw [if_pos (.inl h)]; exact no _ rfl
    · by_cases h2 : (t.size : Int) > 60
      · rw [if_pos (.inr (.inl (by omega)))]; exact no _ (decide_eq_true h2)
      · rw [if_neg (by rintro (h | h | h); exact h1 h; omega; exact h hE)]
        refine Gets.step (fun k => spec_Receive.j0.eq_2 ..) (Gets.neg (by simpa using h2) (Gets.ite (fun h => ?_) (fun h => ?_)))
        · exact specRecv_j1 nx ac q got out num ack t hE _ ⟨fun h3 => ⟨h, of_decide_eq_true h3⟩, fun h3 => decide_eq_true h3.2⟩
        · exact specRecv_j1 nx ac q got out num ack t hE _ ⟨fun h3 => by simp at h3, fun h3 => absurd h3.1 h⟩
  · rw [if_pos (.inr (.inr (fun h => hE (hr.2 h))))]
    exact no _ rfl

theorem recv_len (nx ac : Int) (q : List ByteArray) (got : Int) (out : List ByteArray) (num ack : Int) (t : ByteArray) : (recvT nx ac q got out num ack t).2.2.1.length ≤ q.length ∧ (recvT nx ac q got out num ack t).2.2.2.2.1.length ≤ out.length + 1 := by
  have h : ∀ a' q', q'.length ≤ q.length → (recvI nx a' q' got out num t).2.2.1.length ≤ q.length ∧ (recvI nx a' q' got out num t).2.2.2.2.1.length ≤ out.length + 1 := by
    intro a' q' hq
    unfold recvI
    split
    · exact ⟨hq, by simp⟩
    · exact ⟨hq, by simp⟩
  unfold recvT
  split
  · exact ⟨Nat.le_refl _, by simp⟩
  · split
    · exact h _ _ (by rw [List.length_drop]; omega)
    · exact h _ _ (Nat.le_refl _)
theorem FnExactReceive : Stat.FnExactReceive := by
  intro a b q c o num ack t ha hb hq hc ho hnum hack ht
  refine Gets.rounds ?_
  unfold laws_FnExactReceive.f
  refine Gets.bind (szEnd a b q c o _ (by omega) hq ho) (fun r hr => Gets.ite (fun _ => Gets.ret rfl) (fun h => ?_))
  obtain ⟨h1, h2, h3, h4⟩ := hr.resolve_left h
  have hq1 := h3.1
  have ho1 := h4.1
  unfold laws_szParcel.f laws_toParcel.f
  have te := (toEnd a b q c o (by omega) (by omega)).ev
  have io := (implRecv a b q c o num ack t (i64_bd ha) (by omega) (by omega)).ev
  have so := (specRecv a b q c o num ack t (i64_bd ha) (by omega) (by omega)).ev
  have main : Gets (fun k => (laws_toEnd.f k a b q c o).bind fun bt238 => ((spec_Receive.f k bt238.1 bt238.2.1 bt238.2.2.1 bt238.2.2.2.1 bt238.2.2.2.2 num ack t).bind fun bt250 => ((laws_toEnd.f k a b q c o).bind fun bt261 => ((impl_Receive.f k bt261.1 bt261.2.1 bt261.2.2.1 bt261.2.2.2.1 bt261.2.2.2.2 num ack t).bind fun bt274 => ((laws_eqEnd.f k bt274.1 bt274.2.1 bt274.2.2.1 bt274.2.2.2.1 bt274.2.2.2.2.1 bt250.1 bt250.2.1 bt250.2.2.1 bt250.2.2.2.1 bt250.2.2.2.2.1).bind fun t285 => (if t285 = true then (laws_FnExactReceive.j0 k bt250.2.2.2.2.2 bt274.2.2.2.2.2 (bt274.2.2.2.2.2 != bt250.2.2.2.2.2) a b q c o num ack t bt250.1 bt250.2.1 bt250.2.2.1 bt250.2.2.2.1 bt250.2.2.2.2.1 bt261.1 bt261.2.1 bt261.2.2.1 bt261.2.2.2.1 bt261.2.2.2.2 bt274.1 bt274.2.1 bt274.2.2.1 bt274.2.2.2.1 bt274.2.2.2.2.1) else (laws_FnExactReceive.j0 k bt250.2.2.2.2.2 bt274.2.2.2.2.2 true a b q c o num ack t bt250.1 bt250.2.1 bt250.2.2.1 bt250.2.2.2.1 bt250.2.2.2.2.1 bt261.1 bt261.2.1 bt261.2.2.1 bt261.2.2.2.1 bt261.2.2.2.2 bt274.1 bt274.2.1 bt274.2.2.1 bt274.2.2.2.1 bt274.2.2.2.2.1)))))) ) (· = true) := by
    refine Gets.bindE te (Gets.bindE so (Gets.bindE te (Gets.bindE io ?_)))
    obtain ⟨hl1, hl2⟩ := recv_len a b q c o num ack t
    generalize recvT a b q c o num ack t = F at hl1 hl2 io ⊢
    have eF := eqEnd_true F.1 F.2.1 F.2.2.1 F.2.2.2.1 F.2.2.2.2.1 (by omega) (by omega)
    have eA := eqEnd_true a b q c o (by omega) (by omega)
    refine Gets.bind eF (fun t ht => Gets.pos ht ?_)
    refine Gets.step (fun k => laws_FnExactReceive.j0.eq_2 ..) (Gets.neg (by simp) (Gets.bindE te (Gets.bind eA (fun t ht => Gets.pos ht ?_))))
    refine Gets.bindE (markEnd a b q c o (by omega) (by omega)).ev (Gets.neg (by omega) (Gets.bind eF (fun t ht => Gets.pos ht ?_)))
    refine Gets.step (fun k => laws_FnExactReceive.j1.eq_2 ..) (Gets.neg (by simp) ?_)
    refine Gets.bindE (markEnd F.1 F.2.1 F.2.2.1 F.2.2.2.1 F.2.2.2.2.1 (by omega) (by omega)).ev (Gets.bindE (heldEnd _ _ _ _ _ (by omega) (by omega)).ev (Gets.neg (by omega) (Gets.pos rfl ?_)))
    refine Gets.bindE te ?_
    unfold laws_toParcel.f
    simp only [Option.bind_some]
    refine Gets.bindE io (Gets.bind eF (fun t ht => Gets.pos ht ?_))
    refine Gets.step (fun k => laws_FnExactReceive.j2.eq_2 ..) (Gets.neg (by simp) ?_)
    exact Gets.bindE (heldEnd _ _ _ _ _ (by omega) (by omega)).ev (Gets.neg (by omega) (Gets.pos rfl (Gets.ret rfl)))
  split
  · exact Gets.ret rfl
  · simp only [Option.bind_some]
    split
    · exact Gets.ret rfl
    · exact main

end Go.Proofs.Ytlidnobkkgcnlaa.Pure
