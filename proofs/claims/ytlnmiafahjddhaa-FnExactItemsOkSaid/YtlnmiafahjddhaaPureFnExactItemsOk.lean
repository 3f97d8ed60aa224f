/- The program's ItemsOk and the reference's answer alike at every list of items, which stays as it was. -/
import Derived.Test.YtlnmiafahjddhaaStatFnExactItemsOk
import Derived.Lib.Strings
set_option linter.unusedVariables false
set_option linter.unusedSimpArgs false
namespace Go.Proofs.Ytlnmiafahjddhaa.Pure
open Go.RowKit Go.Proofs.Ytlnmiafahjddhaa.PFnExactItemsOk Go.Proofs.YtlnmiafahjddhaaW.PrintWords Go.Proofs.YtlnmiafahjddhaaW.PrintLast

/-! ### plain words: from some number of rounds on -/
def Gets {α : Type} (f : Nat → Option α) (Q : α → Prop) : Prop := ∃ r, Ev f r ∧ Q r
theorem Gets.ret {α : Type} {Q : α → Prop} {r : α} (h : Q r) : Gets (fun _ => some r) Q := ⟨r, Ev.now r, h⟩
theorem Gets.none {α : Type} {Q : α → Prop} (h : False) : Gets (fun _ => (Option.none : Option α)) Q := h.elim
theorem Gets.step {α : Type} {g f : Nat → Option α} {Q : α → Prop} (h : ∀ k, g (k + 1) = f k) (k : Gets f Q) : Gets g Q := by
  obtain ⟨r, hr, hq⟩ := k
  exact ⟨r, Ev.step h hr, hq⟩
theorem Ev.ite {α : Type} {c : Prop} [Decidable c] {f g : Nat → Option α} {r : α} (h : c → Ev f r) (k : ¬ c → Ev g r) : Ev (fun n => if c then f n else g n) r := by
  by_cases hc : c
  · simp only [hc, if_true]; exact h hc
  · simp only [hc, if_false]; exact k hc
theorem Gets.ite {α : Type} {c : Prop} [Decidable c] {f g : Nat → Option α} {Q : α → Prop} (h : c → Gets f Q) (k : ¬ c → Gets g Q) : Gets (fun n => if c then f n else g n) Q := by
  by_cases hc : c
  · simp only [hc, if_true]; exact h hc
  · simp only [hc, if_false]; exact k hc
theorem Gets.pos {α : Type} {c : Prop} [Decidable c] {f g : Nat → Option α} {Q : α → Prop} (hc : c) (h : Gets f Q) : Gets (fun n => if c then f n else g n) Q := by
  simp only [hc, if_true]; exact h
theorem Gets.neg {α : Type} {c : Prop} [Decidable c] {f g : Nat → Option α} {Q : α → Prop} (hc : ¬ c) (h : Gets g Q) : Gets (fun n => if c then f n else g n) Q := by
  simp only [hc, if_false]; exact h
theorem Gets.bind {α β : Type} {g : Nat → Option α} {f : Nat → α → Option β} {P : α → Prop} {Q : β → Prop} (h : Gets g P) (k : ∀ a, P a → Gets (fun n => f n a) Q) : Gets (fun n => (g n).bind (f n)) Q := by
  obtain ⟨a, ha, hp⟩ := h
  obtain ⟨r, hr, hq⟩ := k a hp
  exact ⟨r, Ev.bind ha hr, hq⟩
theorem Gets.bindE {α β : Type} {g : Nat → Option α} {f : Nat → α → Option β} {a : α} {Q : β → Prop} (h : Ev g a) (k : Gets (fun n => f n a) Q) : Gets (fun n => (g n).bind (f n)) Q := by
  obtain ⟨r, hr, hq⟩ := k
  exact ⟨r, Ev.bind h hr, hq⟩
theorem Gets.mono {α : Type} {f : Nat → Option α} {P Q : α → Prop} (h : Gets f P) (k : ∀ a, P a → Q a) : Gets f Q := by
  obtain ⟨r, hr, hp⟩ := h
  exact ⟨r, hr, k r hp⟩
theorem Gets.rounds {α : Type} {f : Nat → Option α} {r : α} (h : Gets f (· = r)) : ∃ k, f k = some r := by
  obtain ⟨a, ha, rfl⟩ := h
  exact ha.rounds
theorem Gets.ev {α : Type} {f : Nat → Option α} {r : α} (h : Gets f (· = r)) : Ev f r := by
  obtain ⟨a, ha, rfl⟩ := h
  exact ha
theorem Ev.gets {α : Type} {f : Nat → Option α} {r : α} {Q : α → Prop} (h : Ev f r) (hq : Q r) : Gets f Q := ⟨r, h, hq⟩
theorem Gets.same {α : Type} {o : Option α} {Q : α → Prop} {r : α} (h : o = some r) (hq : Q r) : Gets (fun _ => o) Q := by
  subst h; exact Gets.ret hq
theorem wrapId {x : Int} (h0 : -9223372036854775808 ≤ x) (h1 : x ≤ 9223372036854775807) : wrap64 x = x := by
  unfold wrap64; omega
theorem i64_bd {n : Int} (h : (Lit.int .i64 n).wf = true) : -9223372036854775808 ≤ n ∧ n ≤ 9223372036854775807 := by
  have hm : IntKind.i64.min = -9223372036854775808 := rfl
  simp [Lit.wf, hm] at h
  exact h
theorem boolEq {a b : Bool} {P Q : Prop} (ha : a = true ↔ P) (hb : b = true ↔ Q) (h : P ↔ Q) : a = b := by
  rw [Bool.eq_iff_iff, ha, hb, h]
theorem tmod_nn {a b : Int} (h : 0 ≤ a) : Int.tmod a b = a % b := Int.tmod_eq_emod_of_nonneg h
theorem tdiv_nn {a b : Int} (h : 0 ≤ a) : Int.tdiv a b = a / b := Int.tdiv_eq_ediv_of_nonneg h

theorem inR (x a b : Int) : impl_inRange.f x a b = some (decide (a ≤ x ∧ x ≤ b)) := by
  unfold impl_inRange.f
  by_cases h : x ≥ a
  · rw [if_pos h]; simp [show a ≤ x from h]
  · rw [if_neg h]; simp [show ¬ a ≤ x from h]

theorem inS (x a b : Int) : spec_l01In.f x a b = some (decide (a ≤ x ∧ x ≤ b)) := by
  unfold spec_l01In.f
  by_cases h : x ≥ a
  · rw [if_pos h]; simp [show a ≤ x from h]
  · rw [if_neg h]; simp [show ¬ a ≤ x from h]

def itemB (a b c : Int) (s : ByteArray) : Bool := decide ((1 ≤ a ∧ a ≤ 60) ∧ (1 ≤ b ∧ b ≤ 5) ∧ (1 ≤ c ∧ c ≤ 2) ∧ (s.size : Int) ≤ 60)
theorem implItemOk (a b c : Int) (s : ByteArray) : impl_ItemOk.f a b c s = some (itemB a b c s) := by
  unfold impl_ItemOk.f impl_isDaemon.f impl_isLevel.f itemB
  simp only [inR, Option.bind_some, decide_eq_true_eq]
  by_cases h1 : 1 ≤ a ∧ a ≤ 60
  · rw [if_pos h1]
    by_cases h2 : 1 ≤ b ∧ b ≤ 5
    · rw [if_pos h2]
      by_cases h3 : c = 1
      · rw [if_pos h3]; simp only [Option.bind_some, if_true]; congr 1; rw [decide_eq_decide]; omega
      · rw [if_neg h3]; simp only [Option.bind_some, beq_iff_eq]
        by_cases h4 : c = 2
        · rw [if_pos h4]; congr 1; rw [decide_eq_decide]; omega
        · rw [if_neg h4]; congr 1; symm; rw [decide_eq_false_iff_not]; omega
    · rw [if_neg h2]; congr 1; symm; rw [decide_eq_false_iff_not]; exact fun h => h2 h.2.1
  · rw [if_neg h1]; congr 1; symm; rw [decide_eq_false_iff_not]; exact fun h => h1 h.1
theorem specItemOk (a b c : Int) (s : ByteArray) : spec_ItemOk.f a b c s = some (itemB a b c s) := by
  unfold spec_ItemOk.f itemB
  simp only [inS, Option.bind_some, decide_eq_true_eq]
  by_cases h1 : 1 ≤ a ∧ a ≤ 60
  · rw [if_pos h1]
    by_cases h2 : 1 ≤ b ∧ b ≤ 5
    · rw [if_pos h2]
      by_cases h3 : 1 ≤ c ∧ c ≤ 2
      · rw [if_pos h3]; congr 1; rw [decide_eq_decide]; omega
      · rw [if_neg h3]; congr 1; symm; rw [decide_eq_false_iff_not]; exact fun h => h3 h.2.2.1
    · rw [if_neg h2]; congr 1; symm; rw [decide_eq_false_iff_not]; exact fun h => h2 h.2.1
  · rw [if_neg h1]; congr 1; symm; rw [decide_eq_false_iff_not]; exact fun h => h1 h.1

/-! ### rows of numbers -/
theorem rd_get {l : List Int} {i : Int} (h : i.toNat < l.length) : rd l i = l[i.toNat] := by
  unfold rd; rw [List.getD_eq_getElem?_getD, List.getElem?_eq_getElem h]; rfl
theorem fill_step {α : Type} (l : List α) (d : α) (i : Nat) (h : i < l.length) : (l.take i ++ List.replicate (l.length - i) d).set i l[i] = l.take (i + 1) ++ List.replicate (l.length - (i + 1)) d := by
  have e : List.replicate (l.length - i) d = d :: List.replicate (l.length - (i + 1)) d := by
    rw [show l.length - i = (l.length - (i + 1)) + 1 by omega]; rfl
  rw [e, List.set_append_right _ _ (by rw [List.length_take]; omega), List.length_take, show i - min i l.length = 0 by omega, List.set_cons_zero, List.take_succ_eq_append_getElem h, List.append_assoc]
  rfl
theorem drop_at {α : Type} (l : List α) (i : Nat) (h : i < l.length) : l.drop i = l[i] :: l.drop (i + 1) := List.drop_eq_getElem_cons h
def marks (k : Int) (n : Nat) : List Int := (List.range n).map (fun (i : Nat) => k + (i : Int))
theorem marks_length (k : Int) (n : Nat) : (marks k n).length = n := by simp [marks]
theorem marks_get (k : Int) (n i : Nat) (h : i < n) : (marks k n)[i]'(by rw [marks_length]; exact h) = k + i := by simp [marks]

def cvI (m : S35) : S38 := ⟨m.f0, m.f1, m.f2, m.f3⟩
def iB (m : S38) : Bool := itemB m.f0 m.f1 m.f2 m.f3
theorem rdI_get {l : List S38} {i : Int} (h : i.toNat < l.length) : rd_T38 l i = l[i.toNat] := by
  unfold rd_T38; rw [List.getD_eq_getElem?_getD, List.getElem?_eq_getElem h]; rfl
theorem rdIl_get {l : List S35} {i : Int} (h : i.toNat < l.length) : rd_T35 l i = l[i.toNat] := by
  unfold rd_T35; rw [List.getD_eq_getElem?_getD, List.getElem?_eq_getElem h]; rfl
/-- Right items, ascending, above p. -/
def okFrom : Int → List S38 → Bool
  | _, [] => true
  | p, m :: l => iB m && (decide (p < m.f0) && okFrom m.f0 l)
theorem iB_bd {m : S38} (h : iB m = true) : 1 ≤ m.f0 ∧ m.f0 ≤ 60 := by
  unfold iB itemB at h
  have := of_decide_eq_true h
  exact this.1

theorem szItem (a b c : Int) (s : ByteArray) (m : Int) (hs : s.size ≤ maxLen) (hm : 0 ≤ m ∧ m ≤ 9000000) : laws_szItem.f a b c s m = some (if m - s.size < 0 then -1 else m - s.size) := by
  unfold maxLen at hs
  unfold laws_szItem.f
  rw [wrapId (by omega) (by omega)]
  split <;> rfl

def sizedI (l : List S35) : Prop := l.length ≤ 1048576 ∧ ∀ m ∈ l, m.f3.size ≤ 1048576
theorem szItemS_l0 (l : List S35) (hl : l.length ≤ 1048576) (hg : ∀ m ∈ l, m.f3.size ≤ maxLen) (d : Nat) : ∀ (i : Nat) (m : Int), l.length - i = d → i ≤ l.length → 0 ≤ m → m ≤ 1048576 → Gets (fun k => laws_szItemS.l0 k l m (i : Int)) (fun r => r < 0 ∨ (0 ≤ r ∧ r ≤ m ∧ ∀ x ∈ l.drop i, x.f3.size ≤ 1048576)) := by
  induction d with
  | zero =>
    intro i m hd hi h0 h1
    refine Gets.step (fun k => laws_szItemS.l0.eq_2 ..) (Gets.neg (by omega) (Gets.ret (.inr ⟨h0, Int.le_refl _, ?_⟩)))
    rw [List.drop_of_length_le (by omega)]
    simp
  | succ d ih =>
    intro i m hd hi h0 h1
    refine Gets.step (fun k => laws_szItemS.l0.eq_2 ..) (Gets.pos (by omega) (Gets.pos (by omega) ?_))
    rw [rdIl_get (by omega), szItem _ _ _ _ _ (hg _ (List.getElem_mem _)) (by omega), wrapId (by omega) (by omega), drop_at l i (by omega)]
    simp only [Int.toNat_natCast, Option.bind_some]
    rw [show ((i : Int) + 1) = ((i + 1 : Nat) : Int) by omega]
    by_cases hn : m - (l[i].f3.size : Int) < 0
    · simp only [hn, if_true]
      exact Gets.pos (by omega) (Gets.ret (.inl (by omega)))
    · simp only [hn, if_false]
      refine (ih (i + 1) _ (by omega) (by omega) (by omega) (by omega)).mono (fun r hr => ?_)
      rcases hr with hr | ⟨h2, h3, h4⟩
      · exact .inl hr
      · refine .inr ⟨h2, by omega, fun x hx => ?_⟩
        rcases List.mem_cons.1 hx with rfl | hx
        · omega
        · exact h4 x hx
theorem szItemS (l : List S35) (m : Int) (hm : 0 ≤ m ∧ m ≤ 1048576) (hl : l.length ≤ maxLen) (hg : ∀ m ∈ l, m.f3.size ≤ maxLen) : Gets (fun k => laws_szItemS.f k l m) (fun r => r < 0 ∨ (0 ≤ r ∧ r ≤ m ∧ sizedI l)) := by
  unfold maxLen at hl
  unfold laws_szItemS.f
  rw [wrapId (by omega) (by omega)]
  refine Gets.ite (fun h => Gets.ret (.inl (by omega))) (fun h => ?_)
  refine (szItemS_l0 l (by omega) hg l.length 0 _ (by omega) (by omega) (by omega) (by omega)).mono (fun r hr => ?_)
  rcases hr with hr | ⟨h2, h3, h4⟩
  · exact .inl hr
  · exact .inr ⟨h2, by omega, by omega, fun x hx => h4 x (by simpa using hx)⟩

theorem toItemS_l0 (l : List S35) (hl : l.length ≤ 7036874417766) (d : Nat) : ∀ i : Nat, l.length - i = d → i ≤ l.length → Gets (fun k => laws_toItemS.l0 k l ((l.map cvI).take i ++ List.replicate ((l.map cvI).length - i) z38) (i : Int)) (· = l.map cvI) := by
  induction d with
  | zero =>
    intro i hd hi
    refine Gets.step (fun k => laws_toItemS.l0.eq_2 ..) (Gets.neg (by omega) (Gets.ret ?_))
    rw [List.take_of_length_le (by simp; omega), show (l.map cvI).length - i = 0 by simp; omega]
    simp
  | succ d ih =>
    intro i hd hi
    refine Gets.step (fun k => laws_toItemS.l0.eq_2 ..) (Gets.pos (by omega) (Gets.pos (by omega) ?_))
    simp only [laws_toItem.f, Option.bind_some]
    refine Gets.pos (by simp; omega) ?_
    rw [rdIl_get (by omega), wrapId (by omega) (by omega)]
    simp only [Int.toNat_natCast]
    have e : (⟨l[i].f0, l[i].f1, l[i].f2, l[i].f3⟩ : S38) = (l.map cvI)[i]'(by simp; omega) := by simp [cvI]
    rw [e, fill_step (l.map cvI) z38 i (by simp; omega), show ((i : Int) + 1) = ((i + 1 : Nat) : Int) by omega]
    exact ih (i + 1) (by omega) (by omega)
theorem toItemS (l : List S35) (hl : l.length ≤ 7036874417766) : Gets (fun k => laws_toItemS.f k l) (· = l.map cvI) := by
  unfold laws_toItemS.f
  refine Gets.pos (by omega) (Gets.pos (by omega) ?_)
  have h := toItemS_l0 l hl l.length 0 (by omega) (by omega)
  simpa using h

/-! ### texts as lists of numbers -/
theorem bytesOf_inj {a b : ByteArray} (h : bytesOf a = bytesOf b) : a = b := by
  have hl : a.data.toList = b.data.toList := by
    unfold bytesOf at h
    exact List.map_inj_right (fun x y hxy => UInt8.toNat_inj.1 (by exact_mod_cast hxy)) |>.1 h
  have hd : a.data = b.data := Array.toList_inj.1 hl
  cases a; cases b; cases hd; rfl
theorem toList_iff (a b : ByteArray) : a.toList = b.toList ↔ a = b := by
  rw [Lib.toList_data, Lib.toList_data]
  exact ⟨fun h => bytesOf_inj (by unfold bytesOf; rw [h]), fun h => by rw [h]⟩
theorem bytesOf_range {s : ByteArray} {x : Int} (h : x ∈ bytesOf s) : 0 ≤ x ∧ x < 256 := by
  unfold bytesOf at h
  obtain ⟨b, _, rfl⟩ := List.mem_map.1 h
  have := b.toNat_lt
  omega
theorem bytesOf_str {xs : List Int} (h : ∀ x ∈ xs, 0 ≤ x ∧ x < 256) : bytesOf (strOfNums xs) = xs := by
  unfold bytesOf
  rw [strOfNums_data, List.map_map]
  conv => rhs; rw [← List.map_id xs]
  refine List.map_congr_left (fun x hx => ?_)
  have := h x hx
  simp only [Function.comp, UInt8.toNat_ofNat', id]
  omega
theorem str_bytesOf (s : ByteArray) : strOfNums (bytesOf s) = s := bytesOf_inj (bytesOf_str (fun _ => bytesOf_range))
theorem bytesOf_extract (s : ByteArray) (a b : Nat) : bytesOf (s.extract a b) = ((bytesOf s).drop a).take (b - a) := by
  unfold bytesOf
  rw [Lib.extract_data, List.map_take, List.map_drop]
theorem bytesOf_app (a b : ByteArray) : bytesOf (a ++ b) = bytesOf a ++ bytesOf b := by
  unfold bytesOf
  rw [← List.map_append]
  congr 1
  first | done | simp
theorem bt_getD (s : ByteArray) (i : Int) : bt s i = (bytesOf s).getD i.toNat 0 := (rd_bytesOf s i).symm
theorem bytesOf_empty : bytesOf (⟨#[]⟩ : ByteArray) = [] := rfl
theorem size_eq (s : ByteArray) : s.size = (bytesOf s).length := (bytesOf_length s).symm
theorem size_app (a b : ByteArray) : (a ++ b).size = a.size + b.size := by simp

theorem eqItem (m n : S38) : laws_eqItem.f m.f0 m.f1 m.f2 m.f3 n.f0 n.f1 n.f2 n.f3 = some true ↔ m = n := by
  unfold laws_eqItem.f
  constructor
  · intro h
    repeat' (split at h)
    all_goals (first | (cases h; done) | skip)
    rename_i h0 h1 h2 h3
    cases m; cases n
    simp only at h0 h1 h2 h3
    rw [toList_iff] at h3
    subst h0 h1 h2 h3
    rfl
  · rintro rfl
    simp
theorem eqItem_some (m n : S38) : ∃ b, laws_eqItem.f m.f0 m.f1 m.f2 m.f3 n.f0 n.f1 n.f2 n.f3 = some b := by
  unfold laws_eqItem.f
  repeat' split
  all_goals exact ⟨_, rfl⟩
theorem eqItem_gets (m n : S38) : Gets (fun _ => laws_eqItem.f m.f0 m.f1 m.f2 m.f3 n.f0 n.f1 n.f2 n.f3) (fun b => b = true ↔ m = n) := by
  obtain ⟨b, hb⟩ := eqItem_some m n
  refine Gets.same hb ?_
  rw [← eqItem m n, hb]
  simp
theorem eqItemS_l0 (a b : List S38) (ha : a.length ≤ 35184372088832) (hab : a.length = b.length) (d : Nat) : ∀ i : Nat, a.length - i = d → i ≤ a.length → Gets (fun k => laws_eqItemS.l0 k a b (i : Int)) (fun r => r = true ↔ a.drop i = b.drop i) := by
  induction d with
  | zero =>
    intro i hd hi
    refine Gets.step (fun k => laws_eqItemS.l0.eq_2 ..) (Gets.neg (by omega) (Gets.ret ?_))
    rw [List.drop_of_length_le (by omega), List.drop_of_length_le (by omega)]
    simp
  | succ d ih =>
    intro i hd hi
    refine Gets.step (fun k => laws_eqItemS.l0.eq_2 ..) (Gets.pos (by omega) (Gets.pos (by omega) (Gets.pos (by omega) ?_)))
    rw [rdI_get (by omega), rdI_get (by omega), wrapId (by omega) (by omega)]
    simp only [Int.toNat_natCast]
    rw [drop_at a i (by omega), drop_at b i (by omega)]
    refine Gets.bind (eqItem_gets _ _) (fun t ht => ?_)
    refine Gets.ite (fun h => ?_) (fun h => Gets.ret ?_)
    · rw [show ((i : Int) + 1) = ((i + 1 : Nat) : Int) by omega]
      refine (ih (i + 1) (by omega) (by omega)).mono (fun r hr => ?_)
      rw [hr]
      simp only [List.cons.injEq, ht.1 h, true_and]
    · have hne : ¬ a[i] = b[i] := fun e => h (ht.2 e)
      simp only [List.cons.injEq, hne, false_and, Bool.false_eq_true]
theorem eqItemS (a b : List S38) (ha : a.length ≤ 35184372088832) : Gets (fun k => laws_eqItemS.f k a b) (fun r => r = true ↔ a = b) := by
  unfold laws_eqItemS.f
  refine Gets.ite (fun h => ?_) (fun h => Gets.ret ?_)
  · exact eqItemS_l0 a b ha (by omega) a.length 0 (by omega) (by omega)
  · simp only [Bool.false_eq_true, false_iff]
    rintro rfl
    exact h rfl
theorem eqItemS_true (a : List S38) (ha : a.length ≤ 35184372088832) : Gets (fun k => laws_eqItemS.f k a a) (fun r => r = true) := (eqItemS a a ha).mono (fun r hr => hr.2 rfl)

theorem implItemsOk_l0 (l : List S38) (hl : l.length ≤ 35184372088832) (d : Nat) : ∀ (i : Nat) (p : Int), l.length - i = d → i ≤ l.length → (i = 0 → p = 0) → (∀ h : 0 < i, ∀ h2 : i - 1 < l.length, p = (l[i - 1]'h2).f0) → Gets (fun k => impl_ItemsOk.l0 k l l (l.length : Int) (i : Int)) (· = okFrom p (l.drop i)) := by
  induction d with
  | zero =>
    intro i p hd hi _ _
    refine Gets.step (fun k => impl_ItemsOk.l0.eq_2 ..) (Gets.neg (by omega) (Gets.ret ?_))
    rw [List.drop_of_length_le (by omega)]
    rfl
  | succ d ih =>
    intro i p hd hi hp0 hp1
    refine Gets.step (fun k => impl_ItemsOk.l0.eq_2 ..) (Gets.pos (by omega) (Gets.pos (by omega) (Gets.pos (by omega) ?_)))
    rw [rdI_get (by omega), implItemOk, drop_at l i (by omega)]
    simp only [Int.toNat_natCast, Option.bind_some]
    have hi1 := ih (i + 1) l[i].f0 (by omega) (by omega) (by omega) (fun _ h2 => by simp)
    rw [show (((i + 1 : Nat)) : Int) = (i : Int) + 1 by omega] at hi1
    rw [wrapId (x := (i : Int) + 1) (by omega) (by omega)]
    have hun : okFrom p (l[i] :: l.drop (i + 1)) = (iB l[i] && (decide (p < l[i].f0) && okFrom l[i].f0 (l.drop (i + 1)))) := rfl
    rw [hun]
    refine Gets.ite (fun h => ?_) (fun h => Gets.ret ?_)
    · have hb : iB l[i] = true := h
      rw [hb, Bool.true_and]
      refine Gets.ite (fun h1 => ?_) (fun h1 => ?_)
      · rw [wrapId (x := (i : Int) - 1) (by omega) (by omega)]
        refine Gets.pos (by omega) (Gets.pos (by omega) ?_)
        rw [rdI_get (by omega)]
        have e := hp1 (by omega) (by omega)
        have e2 : (l[((i : Int) - 1).toNat]'(by omega)) = l[i - 1]'(by omega) := by congr 1; omega
        rw [e2, ← e]
        refine Gets.ite (fun h2 => Gets.ret ?_) (fun h2 => hi1.mono (fun r hr => ?_))
        · rw [decide_eq_false (by omega)]; rfl
        · rw [hr, decide_eq_true (by omega)]; rfl
      · refine hi1.mono (fun r hr => ?_)
        have := iB_bd hb
        have hp := hp0 (by omega)
        rw [hr, decide_eq_true (show p < l[i].f0 by omega)]; rfl
    · have hb : iB l[i] = false := Bool.eq_false_iff.2 h
      rw [hb]; rfl
theorem implItemsOk (l : List S38) (hl : l.length ≤ 35184372088832) : Gets (fun k => impl_ItemsOk.f k l) (· = okFrom 0 l) := by
  unfold impl_ItemsOk.f
  exact implItemsOk_l0 l hl l.length 0 0 (by omega) (by omega) (fun _ => rfl) (fun h => by omega)

theorem specItemsOk_l0 (l : List S38) (hl : l.length ≤ 35184372088832) (d : Nat) : ∀ (i : Nat) (p : Int), l.length - i = d → i ≤ l.length → (i = 0 → p = 0) → (∀ h : 0 < i, ∀ h2 : i - 1 < l.length, p = (l[i - 1]'h2).f0) → Gets (fun k => spec_ItemsOk.l0 k l (i : Int)) (· = okFrom p (l.drop i)) := by
  induction d with
  | zero =>
    intro i p hd hi _ _
    refine Gets.step (fun k => spec_ItemsOk.l0.eq_2 ..) (Gets.neg (by omega) (Gets.ret ?_))
    rw [List.drop_of_length_le (by omega)]
    rfl
  | succ d ih =>
    intro i p hd hi hp0 hp1
    refine Gets.step (fun k => spec_ItemsOk.l0.eq_2 ..) (Gets.pos (by omega) (Gets.pos (by omega) ?_))
    rw [rdI_get (by omega), specItemOk, drop_at l i (by omega)]
    simp only [Int.toNat_natCast, Option.bind_some]
    have hi1 := ih (i + 1) l[i].f0 (by omega) (by omega) (by omega) (fun _ h2 => by simp)
    rw [show (((i + 1 : Nat)) : Int) = (i : Int) + 1 by omega] at hi1
    rw [wrapId (x := (i : Int) + 1) (by omega) (by omega)]
    have hun : okFrom p (l[i] :: l.drop (i + 1)) = (iB l[i] && (decide (p < l[i].f0) && okFrom l[i].f0 (l.drop (i + 1)))) := rfl
    rw [hun]
    refine Gets.ite (fun h => ?_) (fun h => Gets.ret ?_)
    · have hb : iB l[i] = true := h
      rw [hb, Bool.true_and]
      refine Gets.ite (fun h1 => ?_) (fun h1 => ?_)
      · rw [wrapId (x := (i : Int) - 1) (by omega) (by omega)]
        refine Gets.pos (by omega) (Gets.pos (by omega) ?_)
        rw [rdI_get (by omega)]
        have e := hp1 (by omega) (by omega)
        have e2 : (l[((i : Int) - 1).toNat]'(by omega)) = l[i - 1]'(by omega) := by congr 1; omega
        rw [e2, ← e]
        refine Gets.ite (fun h2 => Gets.ret ?_) (fun h2 => hi1.mono (fun r hr => ?_))
        · rw [decide_eq_false (by omega)]; rfl
        · rw [hr, decide_eq_true (by omega)]; rfl
      · refine hi1.mono (fun r hr => ?_)
        have := iB_bd hb
        have hp := hp0 (by omega)
        rw [hr, decide_eq_true (show p < l[i].f0 by omega)]; rfl
    · have hb : iB l[i] = false := Bool.eq_false_iff.2 h
      rw [hb]; rfl
theorem specItemsOk (l : List S38) (hl : l.length ≤ 35184372088832) : Gets (fun k => spec_ItemsOk.f k l) (· = okFrom 0 l) := by
  unfold spec_ItemsOk.f
  exact specItemsOk_l0 l hl l.length 0 0 (by omega) (by omega) (fun _ => rfl) (fun h => by omega)

theorem FnExactItemsOk : Stat.FnExactItemsOk := by
  intro l hl
  refine Gets.rounds ?_
  unfold laws_FnExactItemsOk.f
  refine Gets.bind (szItemS l _ (by omega) hl.1 (fun m hm => (hl.2 m hm).2.2.2)) (fun r hr => ?_)
  refine Gets.ite (fun _ => Gets.ret rfl) (fun h => ?_)
  have hz := (hr.resolve_left h).2.2
  have hn := hz.1
  have hn2 : (l.map cvI).length = l.length := by simp
  refine Gets.bindE (toItemS l (by omega)).ev (Gets.bindE (specItemsOk _ (by omega)).ev (Gets.bindE (toItemS l (by omega)).ev (Gets.bindE (implItemsOk _ (by omega)).ev (Gets.neg (by simp) (Gets.bindE (toItemS l (by omega)).ev ?_)))))
  refine Gets.bind (eqItemS_true _ (by omega)) (fun t ht => Gets.pos ht (Gets.ret rfl))

end Go.Proofs.Ytlnmiafahjddhaa.Pure
