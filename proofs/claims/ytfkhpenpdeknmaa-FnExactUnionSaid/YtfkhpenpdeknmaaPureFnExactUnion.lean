/- Union answers as the spec says, and keeps nothing of what it is handed -/
import Derived.Test.YtfkhpenpdeknmaaStatFnExactUnion
import Derived.Lib.Strings
set_option linter.unusedVariables false
set_option linter.unusedSimpArgs false
namespace Go.Proofs.Ytfkhpenpdeknmaa.Pure
open Go.RowKit Go.Proofs.Ytfkhpenpdeknmaa.PFnExactUnion Go.Proofs.YtfkhpenpdeknmaaW.PrintWords Go.Proofs.YtfkhpenpdeknmaaW.PrintLast

/-! ### plain words: from some number of rounds on -/
def Gets {α : Type} (f : Nat → Option α) (Q : α → Prop) : Prop := ∃ r, Ev f r ∧ Q r
theorem Gets.ret {α : Type} {Q : α → Prop} {r : α} (h : Q r) : Gets (fun _ => some r) Q := ⟨r, Ev.now r, h⟩
theorem Gets.none {α : Type} {Q : α → Prop} (h : False) : Gets (fun _ => (Option.none : Option α)) Q := h.elim
theorem Gets.step {α : Type} {g f : Nat → Option α} {Q : α → Prop} (h : ∀ k, g (k + 1) = f k) (k : Gets f Q) : Gets g Q := by
  obtain ⟨r, hr, hq⟩ := k
  exact ⟨r, Ev.step h hr, hq⟩
theorem Ev.ite {α : Type} {c : Prop} [Decidable c] {f g : Nat → Option α} {r : α} (h : c → Ev f r) (k : ¬ c → Ev g r) : Ev (fun n => if c then f n else g n) r := by
  by_cases hc : c
  · simp only [hc, if_true]; exact h hc
  · simp only [hc, if_false]; exact k hc
theorem Gets.ite {α : Type} {c : Prop} [Decidable c] {f g : Nat → Option α} {Q : α → Prop} (h : c → Gets f Q) (k : ¬ c → Gets g Q) : Gets (fun n => if c then f n else g n) Q := by
  by_cases hc : c
  · simp only [hc, if_true]; exact h hc
  · simp only [hc, if_false]; exact k hc
theorem Gets.pos {α : Type} {c : Prop} [Decidable c] {f g : Nat → Option α} {Q : α → Prop} (hc : c) (h : Gets f Q) : Gets (fun n => if c then f n else g n) Q := by
  simp only [hc, if_true]; exact h
theorem Gets.neg {α : Type} {c : Prop} [Decidable c] {f g : Nat → Option α} {Q : α → Prop} (hc : ¬ c) (h : Gets g Q) : Gets (fun n => if c then f n else g n) Q := by
  simp only [hc, if_false]; exact h
theorem Gets.bind {α β : Type} {g : Nat → Option α} {f : Nat → α → Option β} {P : α → Prop} {Q : β → Prop} (h : Gets g P) (k : ∀ a, P a → Gets (fun n => f n a) Q) : Gets (fun n => (g n).bind (f n)) Q := by
  obtain ⟨a, ha, hp⟩ := h
  obtain ⟨r, hr, hq⟩ := k a hp
  exact ⟨r, Ev.bind ha hr, hq⟩
theorem Gets.bindE {α β : Type} {g : Nat → Option α} {f : Nat → α → Option β} {a : α} {Q : β → Prop} (h : Ev g a) (k : Gets (fun n => f n a) Q) : Gets (fun n => (g n).bind (f n)) Q := by
  obtain ⟨r, hr, hq⟩ := k
  exact ⟨r, Ev.bind h hr, hq⟩
theorem Gets.mono {α : Type} {f : Nat → Option α} {P Q : α → Prop} (h : Gets f P) (k : ∀ a, P a → Q a) : Gets f Q := by
  obtain ⟨r, hr, hp⟩ := h
  exact ⟨r, hr, k r hp⟩
theorem Gets.rounds {α : Type} {f : Nat → Option α} {r : α} (h : Gets f (· = r)) : ∃ k, f k = some r := by
  obtain ⟨a, ha, rfl⟩ := h
  exact ha.rounds
theorem Gets.ev {α : Type} {f : Nat → Option α} {r : α} (h : Gets f (· = r)) : Ev f r := by
  obtain ⟨a, ha, rfl⟩ := h
  exact ha
theorem Ev.gets {α : Type} {f : Nat → Option α} {r : α} {Q : α → Prop} (h : Ev f r) (hq : Q r) : Gets f Q := ⟨r, h, hq⟩
theorem Gets.same {α : Type} {o : Option α} {Q : α → Prop} {r : α} (h : o = some r) (hq : Q r) : Gets (fun _ => o) Q := by
  subst h; exact Gets.ret hq
theorem wrapId {x : Int} (h0 : -9223372036854775808 ≤ x) (h1 : x ≤ 9223372036854775807) : wrap64 x = x := by
  unfold wrap64; omega
theorem i64_bd {n : Int} (h : (Lit.int .i64 n).wf = true) : -9223372036854775808 ≤ n ∧ n ≤ 9223372036854775807 := by
  have hm : IntKind.i64.min = -9223372036854775808 := rfl
  simp [Lit.wf, hm] at h
  exact h
theorem boolEq {a b : Bool} {P Q : Prop} (ha : a = true ↔ P) (hb : b = true ↔ Q) (h : P ↔ Q) : a = b := by
  rw [Bool.eq_iff_iff, ha, hb, h]
theorem tmod_nn {a b : Int} (h : 0 ≤ a) : Int.tmod a b = a % b := Int.tmod_eq_emod_of_nonneg h
theorem tdiv_nn {a b : Int} (h : 0 ≤ a) : Int.tdiv a b = a / b := Int.tdiv_eq_ediv_of_nonneg h

/-! ### rows of numbers -/
theorem rd_get {l : List Int} {i : Int} (h : i.toNat < l.length) : rd l i = l[i.toNat] := by
  unfold rd; rw [List.getD_eq_getElem?_getD, List.getElem?_eq_getElem h]; rfl
theorem fill_step {α : Type} (l : List α) (d : α) (i : Nat) (h : i < l.length) : (l.take i ++ List.replicate (l.length - i) d).set i l[i] = l.take (i + 1) ++ List.replicate (l.length - (i + 1)) d := by
  have e : List.replicate (l.length - i) d = d :: List.replicate (l.length - (i + 1)) d := by
    rw [show l.length - i = (l.length - (i + 1)) + 1 by omega]; rfl
  rw [e, List.set_append_right _ _ (by rw [List.length_take]; omega), List.length_take, show i - min i l.length = 0 by omega, List.set_cons_zero, List.take_succ_eq_append_getElem h, List.append_assoc]
  rfl
theorem drop_at {α : Type} (l : List α) (i : Nat) (h : i < l.length) : l.drop i = l[i] :: l.drop (i + 1) := List.drop_eq_getElem_cons h
def marks (k : Int) (n : Nat) : List Int := (List.range n).map (fun (i : Nat) => k + (i : Int))
theorem marks_length (k : Int) (n : Nat) : (marks k n).length = n := by simp [marks]
theorem marks_get (k : Int) (n i : Nat) (h : i < n) : (marks k n)[i]'(by rw [marks_length]; exact h) = k + i := by simp [marks]

def cvI (m : S24) : S30 := ⟨m.f0, m.f1, m.f2, m.f3⟩
theorem rdI_get {l : List S30} {i : Int} (h : i.toNat < l.length) : rd_T30 l i = l[i.toNat] := by
  unfold rd_T30; rw [List.getD_eq_getElem?_getD, List.getElem?_eq_getElem h]; rfl
theorem rdIl_get {l : List S24} {i : Int} (h : i.toNat < l.length) : rd_T24 l i = l[i.toNat] := by
  unfold rd_T24; rw [List.getD_eq_getElem?_getD, List.getElem?_eq_getElem h]; rfl

theorem szItem (a b c : Int) (s : ByteArray) (m : Int) (hs : s.size ≤ maxLen) (hm : 0 ≤ m ∧ m ≤ 9000000) : laws_szItem.f a b c s m = some (if m - s.size < 0 then -1 else m - s.size) := by
  unfold maxLen at hs
  unfold laws_szItem.f
  rw [wrapId (by omega) (by omega)]
  split <;> rfl

def sizedI (l : List S24) : Prop := l.length ≤ 1048576 ∧ ∀ m ∈ l, m.f3.size ≤ 1048576
theorem szItemS_l0 (l : List S24) (hl : l.length ≤ 1048576) (hg : ∀ m ∈ l, m.f3.size ≤ maxLen) (d : Nat) : ∀ (i : Nat) (m : Int), l.length - i = d → i ≤ l.length → 0 ≤ m → m ≤ 1048576 → Gets (fun k => laws_szItemS.l0 k l m (i : Int)) (fun r => r < 0 ∨ (0 ≤ r ∧ r ≤ m ∧ ∀ x ∈ l.drop i, x.f3.size ≤ 1048576)) := by
  induction d with
  | zero =>
    intro i m hd hi h0 h1
    refine Gets.step (fun k => laws_szItemS.l0.eq_2 ..) (Gets.neg (by omega) (Gets.ret (.inr ⟨h0, Int.le_refl _, ?_⟩)))
    rw [List.drop_of_length_le (by omega)]
    simp
  | succ d ih =>
    intro i m hd hi h0 h1
    refine Gets.step (fun k => laws_szItemS.l0.eq_2 ..) (Gets.pos (by omega) (Gets.pos (by omega) ?_))
    rw [rdIl_get (by omega), szItem _ _ _ _ _ (hg _ (List.getElem_mem _)) (by omega), wrapId (by omega) (by omega), drop_at l i (by omega)]
    simp only [Int.toNat_natCast, Option.bind_some]
    rw [show ((i : Int) + 1) = ((i + 1 : Nat) : Int) by omega]
    by_cases hn : m - (l[i].f3.size : Int) < 0
    · simp only [hn, if_true]
      exact Gets.pos (by omega) (Gets.ret (.inl (by omega)))
    · simp only [hn, if_false]
      refine (ih (i + 1) _ (by omega) (by omega) (by omega) (by omega)).mono (fun r hr => ?_)
      rcases hr with hr | ⟨h2, h3, h4⟩
      · exact .inl hr
      · refine .inr ⟨h2, by omega, fun x hx => ?_⟩
        rcases List.mem_cons.1 hx with rfl | hx
        · omega
        · exact h4 x hx
theorem szItemS (l : List S24) (m : Int) (hm : 0 ≤ m ∧ m ≤ 1048576) (hl : l.length ≤ maxLen) (hg : ∀ m ∈ l, m.f3.size ≤ maxLen) : Gets (fun k => laws_szItemS.f k l m) (fun r => r < 0 ∨ (0 ≤ r ∧ r ≤ m ∧ sizedI l)) := by
  unfold maxLen at hl
  unfold laws_szItemS.f
  rw [wrapId (by omega) (by omega)]
  refine Gets.ite (fun h => Gets.ret (.inl (by omega))) (fun h => ?_)
  refine (szItemS_l0 l (by omega) hg l.length 0 _ (by omega) (by omega) (by omega) (by omega)).mono (fun r hr => ?_)
  rcases hr with hr | ⟨h2, h3, h4⟩
  · exact .inl hr
  · exact .inr ⟨h2, by omega, by omega, fun x hx => h4 x (by simpa using hx)⟩

theorem toItemS_l0 (l : List S24) (hl : l.length ≤ 7036874417766) (d : Nat) : ∀ i : Nat, l.length - i = d → i ≤ l.length → Gets (fun k => laws_toItemS.l0 k l ((l.map cvI).take i ++ List.replicate ((l.map cvI).length - i) z30) (i : Int)) (· = l.map cvI) := by
  induction d with
  | zero =>
    intro i hd hi
    refine Gets.step (fun k => laws_toItemS.l0.eq_2 ..) (Gets.neg (by omega) (Gets.ret ?_))
    rw [List.take_of_length_le (by simp; omega), show (l.map cvI).length - i = 0 by simp; omega]
    simp
  | succ d ih =>
    intro i hd hi
    refine Gets.step (fun k => laws_toItemS.l0.eq_2 ..) (Gets.pos (by omega) (Gets.pos (by omega) ?_))
    simp only [laws_toItem.f, Option.bind_some]
    refine Gets.pos (by simp; omega) ?_
    rw [rdIl_get (by omega), wrapId (by omega) (by omega)]
    simp only [Int.toNat_natCast]
    have e : (⟨l[i].f0, l[i].f1, l[i].f2, l[i].f3⟩ : S30) = (l.map cvI)[i]'(by simp; omega) := by simp [cvI]
    rw [e, fill_step (l.map cvI) z30 i (by simp; omega), show ((i : Int) + 1) = ((i + 1 : Nat) : Int) by omega]
    exact ih (i + 1) (by omega) (by omega)
theorem toItemS (l : List S24) (hl : l.length ≤ 7036874417766) : Gets (fun k => laws_toItemS.f k l) (· = l.map cvI) := by
  unfold laws_toItemS.f
  refine Gets.pos (by omega) (Gets.pos (by omega) ?_)
  have h := toItemS_l0 l hl l.length 0 (by omega) (by omega)
  simpa using h

/-! ### texts as lists of numbers -/
theorem bytesOf_inj {a b : ByteArray} (h : bytesOf a = bytesOf b) : a = b := by
  have hl : a.data.toList = b.data.toList := by
    unfold bytesOf at h
    exact List.map_inj_right (fun x y hxy => UInt8.toNat_inj.1 (by exact_mod_cast hxy)) |>.1 h
  have hd : a.data = b.data := Array.toList_inj.1 hl
  cases a; cases b; cases hd; rfl
theorem toList_iff (a b : ByteArray) : a.toList = b.toList ↔ a = b := by
  rw [Lib.toList_data, Lib.toList_data]
  exact ⟨fun h => bytesOf_inj (by unfold bytesOf; rw [h]), fun h => by rw [h]⟩
theorem bytesOf_range {s : ByteArray} {x : Int} (h : x ∈ bytesOf s) : 0 ≤ x ∧ x < 256 := by
  unfold bytesOf at h
  obtain ⟨b, _, rfl⟩ := List.mem_map.1 h
  have := b.toNat_lt
  omega
theorem bytesOf_str {xs : List Int} (h : ∀ x ∈ xs, 0 ≤ x ∧ x < 256) : bytesOf (strOfNums xs) = xs := by
  unfold bytesOf
  rw [strOfNums_data, List.map_map]
  conv => rhs; rw [← List.map_id xs]
  refine List.map_congr_left (fun x hx => ?_)
  have := h x hx
  simp only [Function.comp, UInt8.toNat_ofNat', id]
  omega
theorem str_bytesOf (s : ByteArray) : strOfNums (bytesOf s) = s := bytesOf_inj (bytesOf_str (fun _ => bytesOf_range))
theorem bytesOf_extract (s : ByteArray) (a b : Nat) : bytesOf (s.extract a b) = ((bytesOf s).drop a).take (b - a) := by
  unfold bytesOf
  rw [Lib.extract_data, List.map_take, List.map_drop]
theorem bytesOf_app (a b : ByteArray) : bytesOf (a ++ b) = bytesOf a ++ bytesOf b := by
  unfold bytesOf
  rw [← List.map_append]
  congr 1
  first | done | simp
theorem bt_getD (s : ByteArray) (i : Int) : bt s i = (bytesOf s).getD i.toNat 0 := (rd_bytesOf s i).symm
theorem bytesOf_empty : bytesOf (⟨#[]⟩ : ByteArray) = [] := rfl
theorem size_eq (s : ByteArray) : s.size = (bytesOf s).length := (bytesOf_length s).symm
theorem size_app (a b : ByteArray) : (a ++ b).size = a.size + b.size := by simp

theorem eqItem (m n : S30) : laws_eqItem.f m.f0 m.f1 m.f2 m.f3 n.f0 n.f1 n.f2 n.f3 = some true ↔ m = n := by
  unfold laws_eqItem.f
  constructor
  · intro h
    repeat' (split at h)
    all_goals (first | (cases h; done) | skip)
    rename_i h0 h1 h2 h3
    cases m; cases n
    simp only at h0 h1 h2 h3
    rw [toList_iff] at h3
    subst h0 h1 h2 h3
    rfl
  · rintro rfl
    simp
theorem eqItem_some (m n : S30) : ∃ b, laws_eqItem.f m.f0 m.f1 m.f2 m.f3 n.f0 n.f1 n.f2 n.f3 = some b := by
  unfold laws_eqItem.f
  repeat' split
  all_goals exact ⟨_, rfl⟩
theorem eqItem_gets (m n : S30) : Gets (fun _ => laws_eqItem.f m.f0 m.f1 m.f2 m.f3 n.f0 n.f1 n.f2 n.f3) (fun b => b = true ↔ m = n) := by
  obtain ⟨b, hb⟩ := eqItem_some m n
  refine Gets.same hb ?_
  rw [← eqItem m n, hb]
  simp
theorem eqItemS_l0 (a b : List S30) (ha : a.length ≤ 35184372088832) (hab : a.length = b.length) (d : Nat) : ∀ i : Nat, a.length - i = d → i ≤ a.length → Gets (fun k => laws_eqItemS.l0 k a b (i : Int)) (fun r => r = true ↔ a.drop i = b.drop i) := by
  induction d with
  | zero =>
    intro i hd hi
    refine Gets.step (fun k => laws_eqItemS.l0.eq_2 ..) (Gets.neg (by omega) (Gets.ret ?_))
    rw [List.drop_of_length_le (by omega), List.drop_of_length_le (by omega)]
    simp
  | succ d ih =>
    intro i hd hi
    refine Gets.step (fun k => laws_eqItemS.l0.eq_2 ..) (Gets.pos (by omega) (Gets.pos (by omega) (Gets.pos (by omega) ?_)))
    rw [rdI_get (by omega), rdI_get (by omega), wrapId (by omega) (by omega)]
    simp only [Int.toNat_natCast]
    rw [drop_at a i (by omega), drop_at b i (by omega)]
    refine Gets.bind (eqItem_gets _ _) (fun t ht => ?_)
    refine Gets.ite (fun h => ?_) (fun h => Gets.ret ?_)
    · rw [show ((i : Int) + 1) = ((i + 1 : Nat) : Int) by omega]
      refine (ih (i + 1) (by omega) (by omega)).mono (fun r hr => ?_)
      rw [hr]
      simp only [List.cons.injEq, ht.1 h, true_and]
    · have hne : ¬ a[i] = b[i] := fun e => h (ht.2 e)
      simp only [List.cons.injEq, hne, false_and, Bool.false_eq_true]
theorem eqItemS (a b : List S30) (ha : a.length ≤ 35184372088832) : Gets (fun k => laws_eqItemS.f k a b) (fun r => r = true ↔ a = b) := by
  unfold laws_eqItemS.f
  refine Gets.ite (fun h => ?_) (fun h => Gets.ret ?_)
  · exact eqItemS_l0 a b ha (by omega) a.length 0 (by omega) (by omega)
  · simp only [Bool.false_eq_true, false_iff]
    rintro rfl
    exact h rfl
theorem eqItemS_true (a : List S30) (ha : a.length ≤ 35184372088832) : Gets (fun k => laws_eqItemS.f k a a) (fun r => r = true) := (eqItemS a a ha).mono (fun r hr => hr.2 rfl)

theorem markText_l0 (d : Nat) : ∀ (n : Nat) (s : ByteArray), n < 10 ^ d → s.size + d ≤ 1000 → n ≤ 9000000000 → ∃ t, Ev (fun k => laws_markText.l0 k (n : Int) s) t := by
  induction d with
  | zero =>
    intro n s h hs hn
    have e : Gets (fun k => laws_markText.l0 k (n : Int) s) (fun _ => True) := Gets.step (fun k => laws_markText.l0.eq_2 ..) (Gets.neg (by omega) (Gets.pos (by omega) (Gets.ret trivial)))
    obtain ⟨t, ht, _⟩ := e
    exact ⟨t, ht⟩
  | succ d ih =>
    intro n s h hs hn
    have e : Gets (fun k => laws_markText.l0 k (n : Int) s) (fun _ => True) := by
      refine Gets.step (fun k => laws_markText.l0.eq_2 ..) (Gets.ite (fun h1 => ?_) (fun h1 => Gets.pos (by omega) (Gets.ret trivial)))
      simp only [Option.bind_some]
      refine Gets.pos (by rw [strOfNums_size]; simp; omega) ?_
      rw [tdiv_nn (by omega), wrapId (x := (n : Int) / 10) (by omega) (by omega), show (n : Int) / 10 = ((n / 10 : Nat) : Int) by omega]
      obtain ⟨t, ht⟩ := ih (n / 10) (strOfNums [(wrap64 (48 + (Int.tmod n 10))) % 256] ++ s) (by
        have : (10 : Nat) ^ (d + 1) = 10 ^ d * 10 := Nat.pow_succ ..
        rw [Nat.div_lt_iff_lt_mul (by omega)]; omega) (by simp [strOfNums_size]; omega) (by omega)
      exact Ev.gets ht trivial
    obtain ⟨t, ht, _⟩ := e
    exact ⟨t, ht⟩
theorem markText_some (n : Int) (h0 : 0 ≤ n) (h1 : n ≤ 9000000000) : ∃ t, Ev (fun k => laws_markText.f k n) t := by
  by_cases h : n ≤ 0
  · exact ⟨_, (Gets.pos (f := fun _ => some (⟨#[109, 48]⟩ : ByteArray)) (g := fun k => laws_markText.l0 k n (⟨#[]⟩ : ByteArray)) (Q := (· = (⟨#[109, 48]⟩ : ByteArray))) h (Gets.ret rfl)).ev⟩
  · obtain ⟨m, rfl⟩ := Int.eq_ofNat_of_zero_le h0
    obtain ⟨t, ht⟩ := markText_l0 10 m (⟨#[]⟩ : ByteArray) (by have : (10 : Nat) ^ 10 = 10000000000 := by decide
                                                               omega) (by decide) (by omega)
    exact ⟨t, (Gets.neg (f := fun _ => some (⟨#[109, 48]⟩ : ByteArray)) h (Ev.gets (Q := (· = t)) ht rfl)).ev⟩
/-- The text that marks n. -/
noncomputable def mtx (n : Int) : ByteArray := if h : 0 ≤ n ∧ n ≤ 9000000000 then Classical.choose (markText_some n h.1 h.2) else ⟨#[]⟩
theorem markText (n : Int) (h0 : 0 ≤ n) (h1 : n ≤ 9000000000) : Ev (fun k => laws_markText.f k n) (mtx n) := by
  unfold mtx
  rw [dif_pos ⟨h0, h1⟩]
  exact Classical.choose_spec (markText_some n h0 h1)

noncomputable def markI (k : Int) : S30 := ⟨k, k + 1, k + 2, mtx (k + 3)⟩
noncomputable def marksI (k : Int) (n : Nat) : List S30 := (List.range n).map (fun (i : Nat) => markI (k + 4 * (i : Int)))
theorem marksI_length (k : Int) (n : Nat) : (marksI k n).length = n := by simp [marksI]
theorem rdI_set {l : List S30} {i : Nat} {v : S30} (h : i < l.length) : rd_T30 (l.set i v) (i : Int) = v := by
  rw [rdI_get (by simp; omega)]; simp
theorem markItemS_l0 (n : Nat) (m : Int) (hn : n ≤ 9000000) (hm : 0 ≤ m ∧ m ≤ 9000000) (d : Nat) : ∀ (i : Nat) (l : List S30), n - i = d → i ≤ n → l.length = n → l.take i = marksI m i → Gets (fun k => laws_markItemS.l0 k l (m + 4 * i) (i : Int)) (· = (m + 4 * n, marksI m n)) := by
  induction d with
  | zero =>
    intro i l hd hi hl ht
    refine Gets.step (fun k => laws_markItemS.l0.eq_2 ..) (Gets.neg (by omega) (Gets.ret ?_))
    obtain rfl : i = n := by omega
    rw [List.take_of_length_le (by omega)] at ht
    rw [ht]
  | succ d ih =>
    intro i l hd hi hl ht
    refine Gets.step (fun k => laws_markItemS.l0.eq_2 ..) (Gets.pos (by omega) (Gets.pos (by omega) ?_))
    simp only [Option.bind_some, Int.toNat_natCast, List.set_set]
    rw [wrapId (x := m + 4 * (i : Int) + 1) (by omega) (by omega), wrapId (x := m + 4 * (i : Int) + 1 + 1) (by omega) (by omega), wrapId (x := m + 4 * (i : Int) + 1 + 1 + 1) (by omega) (by omega), wrapId (x := m + 4 * (i : Int) + 1 + 1 + 1 + 1) (by omega) (by omega), wrapId (x := (i : Int) + 1) (by omega) (by omega)]
    refine Gets.bindE (markText _ (by omega) (by omega)) ?_
    rw [rdI_set (by omega), rdI_set (by omega), rdI_set (by omega)]
    rw [show ((i : Int) + 1) = ((i + 1 : Nat) : Int) by omega, show m + 4 * (i : Int) + 1 + 1 + 1 + 1 = m + 4 * ((i + 1 : Nat) : Int) by omega]
    refine ih (i + 1) _ (by omega) (by omega) (by simpa using hl) ?_
    rw [List.take_succ_eq_append_getElem (by rw [List.length_set]; omega), List.getElem_set_self, List.take_set_of_le (by omega), ht]
    simp only [marksI, List.range_succ, List.map_append, List.map_cons, List.map_nil, markI, show m + 4 * (i : Int) + 1 + 1 = m + 4 * (i : Int) + 2 by omega, show m + 4 * (i : Int) + 2 + 1 = m + 4 * (i : Int) + 3 by omega]
theorem markItemS (l : List S30) (m : Int) (hn : l.length ≤ 9000000) (hm : 0 ≤ m ∧ m ≤ 9000000) : Gets (fun k => laws_markItemS.f k l m) (· = (m + 4 * l.length, marksI m l.length)) := by
  unfold laws_markItemS.f
  have h := markItemS_l0 l.length m hn hm l.length 0 l (by omega) (by omega) rfl (by simp [marksI])
  simpa using h

theorem inR (x a b : Int) : impl_inRange.f x a b = some (decide (a ≤ x ∧ x ≤ b)) := by
  unfold impl_inRange.f
  by_cases h : x ≥ a
  · rw [if_pos h]; simp [show a ≤ x from h]
  · rw [if_neg h]; simp [show ¬ a ≤ x from h]

theorem inS (x a b : Int) : spec_l01In.f x a b = some (decide (a ≤ x ∧ x ≤ b)) := by
  unfold spec_l01In.f
  by_cases h : x ≥ a
  · rw [if_pos h]; simp [show a ≤ x from h]
  · rw [if_neg h]; simp [show ¬ a ≤ x from h]

def itemB (a b c : Int) (s : ByteArray) : Bool := decide ((1 ≤ a ∧ a ≤ 60) ∧ (1 ≤ b ∧ b ≤ 5) ∧ (1 ≤ c ∧ c ≤ 2) ∧ (s.size : Int) ≤ 60)
theorem implItemOk (a b c : Int) (s : ByteArray) : impl_ItemOk.f a b c s = some (itemB a b c s) := by
  unfold impl_ItemOk.f impl_isDaemon.f impl_isLevel.f itemB
  simp only [inR, Option.bind_some, decide_eq_true_eq]
  by_cases h1 : 1 ≤ a ∧ a ≤ 60
  · rw [if_pos h1]
    by_cases h2 : 1 ≤ b ∧ b ≤ 5
    · rw [if_pos h2]
      by_cases h3 : c = 1
      · rw [if_pos h3]; simp only [Option.bind_some, if_true]; congr 1; rw [decide_eq_decide]; omega
      · rw [if_neg h3]; simp only [Option.bind_some, beq_iff_eq]
        by_cases h4 : c = 2
        · rw [if_pos h4]; congr 1; rw [decide_eq_decide]; omega
        · rw [if_neg h4]; congr 1; symm; rw [decide_eq_false_iff_not]; omega
    · rw [if_neg h2]; congr 1; symm; rw [decide_eq_false_iff_not]; exact fun h => h2 h.2.1
  · rw [if_neg h1]; congr 1; symm; rw [decide_eq_false_iff_not]; exact fun h => h1 h.1
theorem specItemOk (a b c : Int) (s : ByteArray) : spec_ItemOk.f a b c s = some (itemB a b c s) := by
  unfold spec_ItemOk.f itemB
  simp only [inS, Option.bind_some, decide_eq_true_eq]
  by_cases h1 : 1 ≤ a ∧ a ≤ 60
  · rw [if_pos h1]
    by_cases h2 : 1 ≤ b ∧ b ≤ 5
    · rw [if_pos h2]
      by_cases h3 : 1 ≤ c ∧ c ≤ 2
      · rw [if_pos h3]; congr 1; rw [decide_eq_decide]; omega
      · rw [if_neg h3]; congr 1; symm; rw [decide_eq_false_iff_not]; exact fun h => h3 h.2.2.1
    · rw [if_neg h2]; congr 1; symm; rw [decide_eq_false_iff_not]; exact fun h => h2 h.2.1
  · rw [if_neg h1]; congr 1; symm; rw [decide_eq_false_iff_not]; exact fun h => h1 h.1

def iB (m : S30) : Bool := itemB m.f0 m.f1 m.f2 m.f3
/-- Right items, ascending, above p. -/
def okFrom : Int → List S30 → Bool
  | _, [] => true
  | p, m :: l => iB m && (decide (p < m.f0) && okFrom m.f0 l)
theorem iB_bd {m : S30} (h : iB m = true) : 1 ≤ m.f0 ∧ m.f0 ≤ 60 := by
  unfold iB itemB at h
  have := of_decide_eq_true h
  exact this.1

/-- An item put into ascending items, unless one has its number. -/
def insI : List S30 → S30 → List S30
  | [], m => [m]
  | x :: l, m => if x.f0 < m.f0 then x :: insI l m else if x.f0 = m.f0 then x :: l else m :: x :: l
theorem insI_lt {x m : S30} {l : List S30} (h : x.f0 < m.f0) : insI (x :: l) m = x :: insI l m := by rw [insI, if_pos h]
theorem insI_eq {x m : S30} {l : List S30} (h : x.f0 = m.f0) : insI (x :: l) m = x :: l := by rw [insI, if_neg (by omega), if_pos h]
theorem insI_gt {x m : S30} {l : List S30} (h : m.f0 < x.f0) : insI (x :: l) m = m :: x :: l := by rw [insI, if_neg (by omega), if_neg (by omega)]
theorem insI_length (l : List S30) (m : S30) : (insI l m).length ≤ l.length + 1 := by
  induction l with
  | nil => simp [insI]
  | cons x l ih =>
    unfold insI
    split
    · simp; omega
    · split <;> simp
theorem okFrom_cons {p : Int} {x : S30} {l : List S30} : okFrom p (x :: l) = true ↔ iB x = true ∧ p < x.f0 ∧ okFrom x.f0 l = true := by
  show (iB x && (decide (p < x.f0) && okFrom x.f0 l)) = true ↔ _
  simp [Bool.and_eq_true]
theorem okFrom_gt {l : List S30} : ∀ {p : Int}, okFrom p l = true → ∀ x ∈ l, p < x.f0 := by
  induction l with
  | nil => intro p _ x hx; cases hx
  | cons y l ih =>
    intro p h x hx
    obtain ⟨_, h2, h3⟩ := okFrom_cons.1 h
    rcases List.mem_cons.1 hx with rfl | hx
    · exact h2
    · have := ih h3 x hx; omega
theorem okFrom_iB {l : List S30} : ∀ {p : Int}, okFrom p l = true → ∀ x ∈ l, iB x = true := by
  induction l with
  | nil => intro p _ x hx; cases hx
  | cons y l ih =>
    intro p h x hx
    obtain ⟨h1, h2, h3⟩ := okFrom_cons.1 h
    rcases List.mem_cons.1 hx with rfl | hx
    · exact h1
    · exact ih h3 x hx
theorem okFrom_insI {l : List S30} {m : S30} (hm : iB m = true) : ∀ {p : Int}, p < m.f0 → okFrom p l = true → okFrom p (insI l m) = true := by
  induction l with
  | nil => intro p hp _; exact okFrom_cons.2 ⟨hm, hp, rfl⟩
  | cons x l ih =>
    intro p hp h
    obtain ⟨h1, h2, h3⟩ := okFrom_cons.1 h
    by_cases hc : x.f0 < m.f0
    · rw [insI_lt hc]; exact okFrom_cons.2 ⟨h1, h2, ih hc h3⟩
    · by_cases he : x.f0 = m.f0
      · rw [insI_eq he]; exact h
      · rw [insI_gt (by omega)]
        exact okFrom_cons.2 ⟨hm, hp, okFrom_cons.2 ⟨h1, by omega, h3⟩⟩
theorem insI_app (p : List S30) (l : List S30) (m : S30) (h : ∀ x ∈ p, x.f0 < m.f0) : insI (p ++ l) m = p ++ insI l m := by
  induction p with
  | nil => rfl
  | cons x p ih => rw [List.cons_append, insI_lt (h x (by simp)), ih (fun y hy => h y (by simp [hy])), List.cons_append]
/-- The reference's way: those below, the item, those above. -/
theorem insI_filter {l : List S30} {m : S30} : ∀ {p : Int}, okFrom p l = true → insI l m = if l.any (fun x => decide (x.f0 = m.f0)) = true then l else l.filter (fun x => decide (x.f0 < m.f0)) ++ [m] ++ l.filter (fun x => decide (x.f0 > m.f0)) := by
  induction l with
  | nil => intro p _; rfl
  | cons x l ih =>
    intro p h
    obtain ⟨h1, h2, h3⟩ := okFrom_cons.1 h
    by_cases hc : x.f0 < m.f0
    · rw [insI_lt hc, ih h3]
      simp only [List.any_cons, decide_eq_false (show ¬ x.f0 = m.f0 by omega), Bool.false_or, List.filter_cons, decide_eq_true hc, if_true, decide_eq_false (show ¬ x.f0 > m.f0 by omega), Bool.false_eq_true, if_false]
      split <;> simp
    · by_cases he : x.f0 = m.f0
      · rw [insI_eq he, if_pos (by simp [he])]
      · have hg := okFrom_gt h3
        have ha : l.any (fun x => decide (x.f0 = m.f0)) = false := by
          rw [List.any_eq_false]; intro y hy; have := hg y hy; simp; omega
        rw [insI_gt (by omega), if_neg (by simp [ha, he])]
        have f1 : l.filter (fun x => decide (x.f0 < m.f0)) = [] := List.filter_eq_nil_iff.2 (fun y hy => by have := hg y hy; simp; omega)
        have f2 : l.filter (fun x => decide (x.f0 > m.f0)) = l := List.filter_eq_self.2 (fun y hy => by have := hg y hy; simp; omega)
        simp only [List.filter_cons, decide_eq_false hc, Bool.false_eq_true, if_false, f1, f2, decide_eq_true (show x.f0 > m.f0 by omega), if_true]
        rfl
def putI (l : List S30) (m : S30) : List S30 := if okFrom 0 l = true ∧ iB m = true then insI l m else l
theorem putI_length (l : List S30) (m : S30) : (putI l m).length ≤ l.length + 1 := by
  unfold putI; split
  · exact insI_length l m
  · omega

theorem implItemsOk_l0 (l : List S30) (hl : l.length ≤ 35184372088832) (d : Nat) : ∀ (i : Nat) (p : Int), l.length - i = d → i ≤ l.length → (i = 0 → p = 0) → (∀ h : 0 < i, ∀ h2 : i - 1 < l.length, p = (l[i - 1]'h2).f0) → Gets (fun k => impl_ItemsOk.l0 k l l (l.length : Int) (i : Int)) (· = okFrom p (l.drop i)) := by
  induction d with
  | zero =>
    intro i p hd hi _ _
    refine Gets.step (fun k => impl_ItemsOk.l0.eq_2 ..) (Gets.neg (by omega) (Gets.ret ?_))
    rw [List.drop_of_length_le (by omega)]
    rfl
  | succ d ih =>
    intro i p hd hi hp0 hp1
    refine Gets.step (fun k => impl_ItemsOk.l0.eq_2 ..) (Gets.pos (by omega) (Gets.pos (by omega) (Gets.pos (by omega) ?_)))
    rw [rdI_get (by omega), implItemOk, drop_at l i (by omega)]
    simp only [Int.toNat_natCast, Option.bind_some]
    have hi1 := ih (i + 1) l[i].f0 (by omega) (by omega) (by omega) (fun _ h2 => by simp)
    rw [show (((i + 1 : Nat)) : Int) = (i : Int) + 1 by omega] at hi1
    rw [wrapId (x := (i : Int) + 1) (by omega) (by omega)]
    have hun : okFrom p (l[i] :: l.drop (i + 1)) = (iB l[i] && (decide (p < l[i].f0) && okFrom l[i].f0 (l.drop (i + 1)))) := rfl
    rw [hun]
    refine Gets.ite (fun h => ?_) (fun h => Gets.ret ?_)
    · have hb : iB l[i] = true := h
      rw [hb, Bool.true_and]
      refine Gets.ite (fun h1 => ?_) (fun h1 => ?_)
      · rw [wrapId (x := (i : Int) - 1) (by omega) (by omega)]
        refine Gets.pos (by omega) (Gets.pos (by omega) ?_)
        rw [rdI_get (by omega)]
        have e := hp1 (by omega) (by omega)
        have e2 : (l[((i : Int) - 1).toNat]'(by omega)) = l[i - 1]'(by omega) := by congr 1; omega
        rw [e2, ← e]
        refine Gets.ite (fun h2 => Gets.ret ?_) (fun h2 => hi1.mono (fun r hr => ?_))
        · rw [decide_eq_false (by omega)]; rfl
        · rw [hr, decide_eq_true (by omega)]; rfl
      · refine hi1.mono (fun r hr => ?_)
        have := iB_bd hb
        have hp := hp0 (by omega)
        rw [hr, decide_eq_true (show p < l[i].f0 by omega)]; rfl
    · have hb : iB l[i] = false := Bool.eq_false_iff.2 h
      rw [hb]; rfl
theorem implItemsOk (l : List S30) (hl : l.length ≤ 35184372088832) : Gets (fun k => impl_ItemsOk.f k l) (· = okFrom 0 l) := by
  unfold impl_ItemsOk.f
  exact implItemsOk_l0 l hl l.length 0 0 (by omega) (by omega) (fun _ => rfl) (fun h => by omega)

theorem insF (l : List S30) (m : S30) (i : Nat) (hi : i ≤ l.length) (hl : l.length ≤ 9000000) : impl_Item.f l (i : Int) [m] = some (l.take i ++ [m] ++ l.drop i) := by
  unfold impl_Item.f
  rw [if_pos ⟨by omega, by omega, rfl, by omega⟩]
  simp
theorem implPut_l0 (l : List S30) (m : S30) (hl : l.length ≤ 9000000) (d : Nat) : ∀ i : Nat, l.length - i = d → i ≤ l.length → (∀ x ∈ l.take i, x.f0 < m.f0) → Gets (fun k => impl_putItem.l0 k l (i : Int) m.f0 m.f1 m.f2 m.f3) (· = insI l m) := by
  induction d with
  | zero =>
    intro i hd hi ha
    have hd0 : i = l.length := by omega
    refine Gets.step (fun k => impl_putItem.l0.eq_2 ..) (Gets.neg (by omega) ?_)
    rw [insF l ⟨m.f0, m.f1, m.f2, m.f3⟩ i hi hl]
    refine Gets.ret ?_
    subst hd0
    rw [List.take_of_length_le (Nat.le_refl _)] at ha ⊢
    rw [List.drop_of_length_le (Nat.le_refl _), List.append_nil]
    have := insI_app l [] m ha
    rw [List.append_nil] at this
    rw [this]; rfl
  | succ d ih =>
    intro i hd hi ha
    have hsplit := insI_app (l.take i) (l.drop i) m ha
    rw [List.take_append_drop, drop_at l i (by omega)] at hsplit
    refine Gets.step (fun k => impl_putItem.l0.eq_2 ..) (Gets.pos (by omega) (Gets.pos (by omega) ?_))
    rw [rdI_get (by omega), wrapId (by omega) (by omega)]
    simp only [Int.toNat_natCast]
    rw [show ((i : Int) + 1) = ((i + 1 : Nat) : Int) by omega]
    refine Gets.ite (fun h => ?_) (fun h => Gets.ite (fun h2 => Gets.ret ?_) (fun h2 => ?_))
    · refine ih (i + 1) (by omega) (by omega) (fun x hx => ?_)
      rw [List.take_succ_eq_append_getElem (by omega)] at hx
      rcases List.mem_append.1 hx with hx | hx
      · exact ha x hx
      · simp at hx; rw [hx]; exact h
    · rw [hsplit, insI_eq h2, ← drop_at l i (by omega), List.take_append_drop]
    · rw [insF l ⟨m.f0, m.f1, m.f2, m.f3⟩ i hi hl]
      refine Gets.ret ?_
      rw [hsplit, insI_gt (by omega), ← drop_at l i (by omega)]
      simp
theorem implPut1 (l : List S30) (m : S30) (hl : l.length ≤ 9000000) : Gets (fun k => impl_putItem.f k l m.f0 m.f1 m.f2 m.f3) (· = insI l m) := by
  unfold impl_putItem.f
  exact implPut_l0 l m hl l.length 0 (by omega) (by omega) (by simp)
theorem specItemsOk_l0 (l : List S30) (hl : l.length ≤ 35184372088832) (d : Nat) : ∀ (i : Nat) (p : Int), l.length - i = d → i ≤ l.length → (i = 0 → p = 0) → (∀ h : 0 < i, ∀ h2 : i - 1 < l.length, p = (l[i - 1]'h2).f0) → Gets (fun k => spec_ItemsOk.l0 k l (i : Int)) (· = okFrom p (l.drop i)) := by
  induction d with
  | zero =>
    intro i p hd hi _ _
    refine Gets.step (fun k => spec_ItemsOk.l0.eq_2 ..) (Gets.neg (by omega) (Gets.ret ?_))
    rw [List.drop_of_length_le (by omega)]
    rfl
  | succ d ih =>
    intro i p hd hi hp0 hp1
    refine Gets.step (fun k => spec_ItemsOk.l0.eq_2 ..) (Gets.pos (by omega) (Gets.pos (by omega) ?_))
    rw [rdI_get (by omega), specItemOk, drop_at l i (by omega)]
    simp only [Int.toNat_natCast, Option.bind_some]
    have hi1 := ih (i + 1) l[i].f0 (by omega) (by omega) (by omega) (fun _ h2 => by simp)
    rw [show (((i + 1 : Nat)) : Int) = (i : Int) + 1 by omega] at hi1
    rw [wrapId (x := (i : Int) + 1) (by omega) (by omega)]
    have hun : okFrom p (l[i] :: l.drop (i + 1)) = (iB l[i] && (decide (p < l[i].f0) && okFrom l[i].f0 (l.drop (i + 1)))) := rfl
    rw [hun]
    refine Gets.ite (fun h => ?_) (fun h => Gets.ret ?_)
    · have hb : iB l[i] = true := h
      rw [hb, Bool.true_and]
      refine Gets.ite (fun h1 => ?_) (fun h1 => ?_)
      · rw [wrapId (x := (i : Int) - 1) (by omega) (by omega)]
        refine Gets.pos (by omega) (Gets.pos (by omega) ?_)
        rw [rdI_get (by omega)]
        have e := hp1 (by omega) (by omega)
        have e2 : (l[((i : Int) - 1).toNat]'(by omega)) = l[i - 1]'(by omega) := by congr 1; omega
        rw [e2, ← e]
        refine Gets.ite (fun h2 => Gets.ret ?_) (fun h2 => hi1.mono (fun r hr => ?_))
        · rw [decide_eq_false (by omega)]; rfl
        · rw [hr, decide_eq_true (by omega)]; rfl
      · refine hi1.mono (fun r hr => ?_)
        have := iB_bd hb
        have hp := hp0 (by omega)
        rw [hr, decide_eq_true (show p < l[i].f0 by omega)]; rfl
    · have hb : iB l[i] = false := Bool.eq_false_iff.2 h
      rw [hb]; rfl
theorem specItemsOk (l : List S30) (hl : l.length ≤ 35184372088832) : Gets (fun k => spec_ItemsOk.f k l) (· = okFrom 0 l) := by
  unfold spec_ItemsOk.f
  exact specItemsOk_l0 l hl l.length 0 0 (by omega) (by omega) (fun _ => rfl) (fun h => by omega)

theorem specPut_l1 (l : List S30) (m : S30) (hl : l.length ≤ 9000000) (d : Nat) : ∀ (i : Nat) (acc : List S30), l.length - i = d → i ≤ l.length → acc.length + d ≤ 90000000 → Gets (fun k => spec_PutItem.l1 k l acc (i : Int) m.f0 m.f1 m.f2 m.f3) (· = acc ++ (l.drop i).filter (fun x => decide (x.f0 > m.f0))) := by
  induction d with
  | zero =>
    intro i acc hd hi ha
    refine Gets.step (fun k => spec_PutItem.l1.eq_2 ..) (Gets.neg (by omega) (Gets.ret ?_))
    rw [List.drop_of_length_le (by omega)]; simp
  | succ d ih =>
    intro i acc hd hi ha
    refine Gets.step (fun k => spec_PutItem.l1.eq_2 ..) (Gets.pos (by omega) (Gets.pos (by omega) ?_))
    rw [rdI_get (by omega), wrapId (by omega) (by omega), drop_at l i (by omega)]
    simp only [Int.toNat_natCast]
    rw [show ((i : Int) + 1) = ((i + 1 : Nat) : Int) by omega]
    refine Gets.ite (fun h => Gets.pos (by omega) ?_) (fun h => ?_)
    · refine (ih (i + 1) (acc ++ [l[i]]) (by omega) (by omega) (by simp; omega)).mono (fun r hr => ?_)
      rw [hr, List.filter_cons, if_pos (decide_eq_true h)]; simp
    · refine (ih (i + 1) acc (by omega) (by omega) (by omega)).mono (fun r hr => ?_)
      rw [hr, List.filter_cons, if_neg (by simpa using h)]
theorem specPut_l0 (l : List S30) (m : S30) (hl : l.length ≤ 9000000) (d : Nat) : ∀ (i : Nat) (acc : List S30), l.length - i = d → i ≤ l.length → acc.length ≤ i → Gets (fun k => spec_PutItem.l0 k l l acc (i : Int) m.f0 m.f1 m.f2 m.f3) (· = if (l.drop i).any (fun x => decide (x.f0 = m.f0)) = true then l else acc ++ (l.drop i).filter (fun x => decide (x.f0 < m.f0)) ++ [m] ++ l.filter (fun x => decide (x.f0 > m.f0))) := by
  induction d with
  | zero =>
    intro i acc hd hi ha
    refine Gets.step (fun k => spec_PutItem.l0.eq_2 ..) (Gets.neg (by omega) (Gets.pos (by omega) ?_))
    refine (specPut_l1 l m hl l.length 0 (acc ++ [m]) (by omega) (by omega) (by simp; omega)).mono (fun r hr => ?_)
    rw [hr, show l.drop i = [] from List.drop_of_length_le (by omega)]; simp
  | succ d ih =>
    intro i acc hd hi ha
    refine Gets.step (fun k => spec_PutItem.l0.eq_2 ..) (Gets.pos (by omega) (Gets.pos (by omega) ?_))
    rw [rdI_get (by omega), wrapId (by omega) (by omega), drop_at l i (by omega)]
    simp only [Int.toNat_natCast]
    rw [show ((i : Int) + 1) = ((i + 1 : Nat) : Int) by omega]
    refine Gets.ite (fun h => Gets.ret ?_) (fun h => Gets.ite (fun h2 => Gets.pos (by omega) ?_) (fun h2 => ?_))
    · rw [if_pos (by rw [List.any_cons, decide_eq_true h]; rfl)]
    · refine (ih (i + 1) (acc ++ [l[i]]) (by omega) (by omega) (by simp; omega)).mono (fun r hr => ?_)
      rw [hr]
      simp only [List.any_cons, decide_eq_false h, Bool.false_or, List.filter_cons, decide_eq_true h2, if_true]
      simp
    · refine (ih (i + 1) acc (by omega) (by omega) (by omega)).mono (fun r hr => ?_)
      rw [hr]
      simp only [List.any_cons, decide_eq_false h, Bool.false_or, List.filter_cons, decide_eq_false h2, Bool.false_eq_true, if_false]
theorem specPut (l : List S30) (m : S30) (hl : l.length ≤ 9000000) : Gets (fun k => spec_PutItem.f k l m.f0 m.f1 m.f2 m.f3) (· = putI l m) := by
  unfold spec_PutItem.f
  simp only [Option.bind_some, List.length_nil, List.nil_append]
  refine Gets.pos (by omega) ?_
  refine Gets.bindE (specItemsOk l (by omega)).ev (Gets.ite (fun h => ?_) (fun h => ?_))
  · rw [specItemOk]
    simp only [Option.bind_some]
    refine Gets.step (fun k => spec_PutItem.j0.eq_2 ..) (Gets.ite (fun h2 => Gets.ret ?_) (fun h2 => ?_))
    · unfold putI iB; rw [if_neg (fun h3 => by rw [h3.2] at h2; cases h2)]
    · refine (specPut_l0 l m hl l.length 0 [] (by omega) (by omega) (by simp)).mono (fun r hr => ?_)
      rw [hr, List.drop_zero, List.nil_append, ← insI_filter h]
      unfold putI iB; rw [if_pos ⟨h, by simpa using h2⟩]
  · refine Gets.step (fun k => spec_PutItem.j0.eq_2 ..) (Gets.pos rfl (Gets.ret ?_))
    unfold putI; rw [if_neg (fun h3 => h h3.1)]

theorem marksI_get (k : Int) (n i : Nat) (h : i < n) : (marksI k n)[i]'(by rw [marksI_length]; exact h) = markI (k + 4 * i) := by simp [marksI]
theorem heldItemS_l0 (n : Nat) (m : Int) (hn : n ≤ 9000000) (hm : 0 ≤ m ∧ m ≤ 9000000) (d : Nat) : ∀ (i : Nat), n - i = d → i ≤ n → Gets (fun k => laws_heldItemS.l0 k (marksI m n) (m + 4 * i) (i : Int)) (· = m + 4 * n) := by
  induction d with
  | zero =>
    intro i hd hi
    refine Gets.step (fun k => laws_heldItemS.l0.eq_2 ..) (Gets.neg (by rw [marksI_length]; omega) (Gets.ret ?_))
    rw [show i = n by omega]
  | succ d ih =>
    intro i hd hi
    refine Gets.step (fun k => laws_heldItemS.l0.eq_2 ..) (Gets.pos (by rw [marksI_length]; omega) (Gets.pos (by omega) ?_))
    have e : rd_T30 (marksI m n) (i : Int) = markI (m + 4 * i) := by
      rw [rdI_get (by rw [marksI_length]; omega)]
      exact marksI_get m n i (by omega)
    simp only [e]
    rw [wrapId (x := m + 4 * (i : Int) + 1) (by omega) (by omega), wrapId (x := m + 4 * (i : Int) + 1 + 1) (by omega) (by omega), wrapId (x := m + 4 * (i : Int) + 1 + 1 + 1) (by omega) (by omega), wrapId (x := m + 4 * (i : Int) + 1 + 1 + 1 + 1) (by omega) (by omega), wrapId (x := (i : Int) + 1) (by omega) (by omega)]
    refine Gets.pos rfl (Gets.pos rfl (Gets.pos ?_ (Gets.bindE (markText _ (by omega) (by omega)) (Gets.pos ?_ ?_))))
    · show m + 4 * (i : Int) + 2 = _; omega
    · show (mtx (m + 4 * (i : Int) + 3)).toList = _
      rw [show m + 4 * (i : Int) + 3 = m + 4 * (i : Int) + 1 + 1 + 1 by omega]
    · rw [show ((i : Int) + 1) = ((i + 1 : Nat) : Int) by omega, show m + 4 * (i : Int) + 1 + 1 + 1 + 1 = m + 4 * ((i + 1 : Nat) : Int) by omega]
      exact ih (i + 1) (by omega) (by omega)
theorem heldItemS (m : Int) (n : Nat) (hn : n ≤ 9000000) (hm : 0 ≤ m ∧ m ≤ 9000000) : Gets (fun k => laws_heldItemS.f k (marksI m n) m) (· = m + 4 * n) := by
  unfold laws_heldItemS.f
  have h := heldItemS_l0 n m hn hm n 0 (by omega) (by omega)
  simpa using h

def atI (s : Int) : List S30 → Int × Int × Int × ByteArray × Bool
  | [] => (0, 0, 0, (⟨#[]⟩ : ByteArray), false)
  | m :: l => if m.f0 = s then (m.f0, m.f1, m.f2, m.f3, true) else atI s l
def hasI (l : List S30) (s : Int) : Bool := (atI s l).2.2.2.2
theorem hasI_iff (l : List S30) (s : Int) : hasI l s = true ↔ ∃ m ∈ l, m.f0 = s := by
  unfold hasI
  induction l with
  | nil => simp [atI]
  | cons m l ih =>
    by_cases h : m.f0 = s
    · simp [atI, h]
    · simp only [atI, h, if_false, List.mem_cons, exists_eq_or_imp, false_or]; exact ih
/-- The greatest number up to which none is missing, from n on; f: how many are left to look for. -/
def aruF (l : List S30) : Nat → Nat → Nat
  | 0, n => n
  | f + 1, n => if hasI l ((n : Int) + 1) = true then aruF l f (n + 1) else n
def aruI (l : List S30) : Nat := aruF l l.length 0
theorem pigeon (k : Nat) : ∀ l : List S30, (∀ s : Nat, 1 ≤ s → s ≤ k → ∃ m ∈ l, m.f0 = (s : Int)) → k ≤ l.length := by
  induction k with
  | zero => intro l _; omega
  | succ k ih =>
    intro l h
    obtain ⟨m, hm, he⟩ := h (k + 1) (by omega) (by omega)
    have h1 := ih (l.filter (fun x => decide (x.f0 ≠ ((k + 1 : Nat) : Int)))) (fun s h1 h2 => by
      obtain ⟨x, hx, hxe⟩ := h s h1 (by omega)
      exact ⟨x, List.mem_filter.2 ⟨hx, decide_eq_true (by omega)⟩, hxe⟩)
    have h2 : (l.filter (fun x => decide (x.f0 ≠ ((k + 1 : Nat) : Int)))).length < l.length := by
      rw [List.length_filter_lt_length_iff_exists]
      exact ⟨m, hm, by simp [he]⟩
    omega
theorem aruF_yes {l : List S30} {f n : Nat} (h : hasI l ((n : Int) + 1) = true) : aruF l (f + 1) n = aruF l f (n + 1) := by rw [aruF, if_pos h]
theorem aruF_no {l : List S30} {f n : Nat} (h : ¬ hasI l ((n : Int) + 1) = true) : aruF l (f + 1) n = n := by rw [aruF, if_neg h]
theorem aruF_le (l : List S30) (f : Nat) : ∀ n, n ≤ aruF l f n ∧ aruF l f n ≤ n + f := by
  induction f with
  | zero => intro n; simp [aruF]
  | succ f ih =>
    intro n
    have := ih (n + 1)
    by_cases h : hasI l ((n : Int) + 1) = true
    · rw [aruF_yes h]; omega
    · rw [aruF_no h]; omega

/-- Those of n, n + 1, .. u that are missing, f of them at the most looked at, until there are 20. -/
def missF (l : List S30) (u : Int) : Nat → Int → List Int → List Int
  | 0, _, acc => acc
  | f + 1, n, acc => if n ≤ u ∧ (acc.length : Int) < 20 then (if hasI l n = true then missF l u f (n + 1) acc else missF l u f (n + 1) (acc ++ [n])) else acc
theorem missF_length (l : List S30) (u : Int) (f : Nat) : ∀ (n : Int) (acc : List Int), acc.length ≤ 20 → (missF l u f n acc).length ≤ 20 := by
  induction f with
  | zero => intro n acc h; exact h
  | succ f ih =>
    intro n acc h
    unfold missF
    split
    · split
      · exact ih _ _ h
      · exact ih _ _ (by simp; omega)
    · exact h
def missI (l : List S30) (u : Int) : List Int := missF l (if u ≤ 60 then u else 60) 100 ((aruI l : Int) + 1) []

theorem mem_insI {l : List S30} {m y : S30} (h : y ∈ insI l m) : y = m ∨ y ∈ l := by
  induction l with
  | nil => exact .inl (by simpa [insI] using h)
  | cons x l ih =>
    unfold insI at h
    split at h
    · rcases List.mem_cons.1 h with h | h
      · exact .inr (by simp [h])
      · rcases ih h with h | h
        · exact .inl h
        · exact .inr (by simp [h])
    · split at h
      · exact .inr h
      · rcases List.mem_cons.1 h with h | h
        · exact .inl h
        · exact .inr h
theorem insI_sub {l : List S30} {m y : S30} (h : y ∈ l) : y ∈ insI l m := by
  induction l with
  | nil => cases h
  | cons x l ih =>
    unfold insI
    split
    · rcases List.mem_cons.1 h with h | h
      · simp [h]
      · exact List.mem_cons_of_mem _ (ih h)
    · split
      · exact h
      · exact List.mem_cons_of_mem _ h
theorem insI_at (l : List S30) (m : S30) : ∃ y ∈ insI l m, y.f0 = m.f0 := by
  induction l with
  | nil => exact ⟨m, by simp [insI], rfl⟩
  | cons x l ih =>
    unfold insI
    split
    · obtain ⟨y, hy, he⟩ := ih
      exact ⟨y, List.mem_cons_of_mem _ hy, he⟩
    · split
      · rename_i h; exact ⟨x, by simp, h⟩
      · exact ⟨m, by simp, rfl⟩
theorem hasI_insI (l : List S30) (m : S30) (x : Int) : hasI (insI l m) x = true ↔ hasI l x = true ∨ x = m.f0 := by
  rw [hasI_iff, hasI_iff]
  constructor
  · rintro ⟨y, hy, he⟩
    rcases mem_insI hy with rfl | hy
    · exact .inr he.symm
    · exact .inl ⟨y, hy, he⟩
  · rintro (⟨y, hy, he⟩ | rfl)
    · exact ⟨y, insI_sub hy, he⟩
    · exact insI_at l m
theorem missF_mem (l : List S30) (u : Int) (f : Nat) : ∀ (n : Int) (acc : List Int), acc.length + (u + 1 - n).toNat ≤ 20 → (u + 1 - n).toNat ≤ f → ∀ x, x ∈ missF l u f n acc ↔ x ∈ acc ∨ (n ≤ x ∧ x ≤ u ∧ hasI l x = false) := by
  induction f with
  | zero =>
    intro n acc h1 h2 x
    unfold missF
    exact ⟨.inl, fun h => h.elim id (fun h => by omega)⟩
  | succ f ih =>
    intro n acc h1 h2 x
    unfold missF
    by_cases hc : n ≤ u ∧ (acc.length : Int) < 20
    · rw [if_pos hc]
      by_cases hh : hasI l n = true
      · rw [if_pos hh, ih (n + 1) acc (by omega) (by omega)]
        refine or_congr_right ⟨fun h => ⟨by omega, h.2⟩, fun h => ⟨?_, h.2⟩⟩
        have : x ≠ n := fun e => by rw [e, hh] at h; cases h.2.2
        omega
      · rw [if_neg hh, ih (n + 1) (acc ++ [n]) (by simp; omega) (by omega)]
        simp only [List.mem_append, List.mem_singleton, or_assoc]
        refine or_congr_right ⟨fun h => ?_, fun h => ?_⟩
        · rcases h with rfl | h
          · exact ⟨Int.le_refl _, hc.1, by simpa using hh⟩
          · exact ⟨by omega, h.2⟩
        · by_cases e : x = n
          · exact .inl e
          · exact .inr ⟨by omega, h.2⟩
    · rw [if_neg hc]
      exact ⟨.inl, fun h => h.elim id (fun h => by omega)⟩
theorem missF_asc (l : List S30) (u : Int) (f : Nat) : ∀ (n : Int) (acc : List Int), acc.Pairwise (· < ·) → (∀ x ∈ acc, x < n) → (missF l u f n acc).Pairwise (· < ·) := by
  induction f with
  | zero => intro n acc h _; exact h
  | succ f ih =>
    intro n acc h h2
    unfold missF
    split
    · split
      · exact ih _ _ h (fun x hx => by have := h2 x hx; omega)
      · refine ih _ _ ?_ (fun x hx => ?_)
        · rw [List.pairwise_append]
          exact ⟨h, by simp, fun a ha b hb => by rw [List.mem_singleton.1 hb]; exact h2 a ha⟩
        · rcases List.mem_append.1 hx with hx | hx
          · have := h2 x hx; omega
          · rw [List.mem_singleton.1 hx]; omega
    · exact h
theorem aruF_has (l : List S30) (f : Nat) : ∀ n : Nat, (∀ s : Nat, 1 ≤ s → s ≤ n → hasI l (s : Int) = true) → ∀ s : Nat, 1 ≤ s → s ≤ aruF l f n → hasI l (s : Int) = true := by
  induction f with
  | zero => intro n h s h1 h2; exact h s h1 h2
  | succ f ih =>
    intro n h s h1 h2
    by_cases hh : hasI l ((n : Int) + 1) = true
    · rw [aruF_yes hh] at h2
      refine ih (n + 1) (fun t h3 h4 => ?_) s h1 h2
      rcases Nat.lt_or_ge n t with h5 | h5
      · rw [show t = n + 1 by omega]; exact hh
      · exact h t h3 h5
    · rw [aruF_no hh] at h2; exact h s h1 h2
theorem aruI_has (l : List S30) (s : Nat) (h1 : 1 ≤ s) (h2 : s ≤ aruI l) : hasI l (s : Int) = true := aruF_has l _ 0 (fun t h3 h4 => by omega) s h1 h2
theorem aruF_max (l : List S30) (f : Nat) : ∀ n u : Nat, n + f = l.length → u ≤ l.length → (∀ s : Nat, 1 ≤ s → s ≤ u → hasI l (s : Int) = true) → u ≤ aruF l f n := by
  induction f with
  | zero => intro n u h1 h2 _; show u ≤ n; omega
  | succ f ih =>
    intro n u h1 h2 h3
    by_cases hu : u ≤ n
    · have := (aruF_le l (f + 1) n).1; omega
    · rw [aruF_yes (by have := h3 (n + 1) (by omega) (by omega); rwa [show ((n + 1 : Nat) : Int) = (n : Int) + 1 by omega] at this)]
      exact ih (n + 1) u (by omega) h2 h3
theorem aruI_max (l : List S30) (u : Nat) (h : ∀ s : Nat, 1 ≤ s → s ≤ u → hasI l (s : Int) = true) : u ≤ aruI l :=
  aruF_max l _ 0 u (by omega) (pigeon u l (fun s h1 h2 => (hasI_iff l _).1 (h s h1 h2))) h
theorem aruI_next (l : List S30) : hasI l ((aruI l : Int) + 1) = false := by
  cases hh : hasI l ((aruI l : Int) + 1) with
  | false => rfl
  | true =>
    have := aruI_max l (aruI l + 1) (fun s h1 h2 => by
      rcases Nat.lt_or_ge (aruI l) s with h3 | h3
      · rw [show s = aruI l + 1 by omega]; exact hh
      · exact aruI_has l s h1 h3)
    omega
theorem aruI_le (l : List S30) : aruI l ≤ l.length := by have := (aruF_le l l.length 0).2; unfold aruI; omega

theorem rdL_get {α : Type} {l : List (List α)} {i : Nat} (h : i < l.length) : l.getD ((i : Int)).toNat [] = l[i] := by
  rw [Int.toNat_natCast, List.getD_eq_getElem?_getD, List.getElem?_eq_getElem h]; rfl
def uniL (acc : List S30) (l : List S30) : List S30 := if okFrom 0 l = true then l.foldl insI acc else acc
def uniT (ls : List (List S30)) : List S30 := ls.foldl uniL []
theorem okFrom_len (l : List S30) : ∀ p : Int, 0 ≤ p → okFrom p l = true → (l.length : Int) ≤ 60 - p ∨ l = [] := by
  induction l with
  | nil => intro p _ _; exact .inr rfl
  | cons x l ih =>
    intro p hp h
    obtain ⟨h1, h2, h3⟩ := okFrom_cons.1 h
    have := iB_bd h1
    rcases ih x.f0 (by omega) h3 with h4 | h4
    · left; rw [List.length_cons]; omega
    · left; rw [h4]; simp; omega
theorem okFrom_len60 {l : List S30} (h : okFrom 0 l = true) : l.length ≤ 60 := by
  rcases okFrom_len l 0 (by omega) h with h1 | h1
  · omega
  · rw [h1]; simp
theorem ins_fold_ok (l : List S30) : ∀ acc : List S30, okFrom 0 acc = true → (∀ m ∈ l, iB m = true) → okFrom 0 (l.foldl insI acc) = true := by
  induction l with
  | nil => intro acc h _; exact h
  | cons m l ih =>
    intro acc h hm
    have hm1 := hm m (by simp)
    exact ih _ (okFrom_insI hm1 (by have := iB_bd hm1; omega) h) (fun x hx => hm x (by simp [hx]))
theorem uniL_ok {acc l : List S30} (h : okFrom 0 acc = true) : okFrom 0 (uniL acc l) = true := by
  unfold uniL
  split
  · rename_i hl; exact ins_fold_ok l acc h (okFrom_iB hl)
  · exact h
theorem uniT_ok (ls : List (List S30)) : ∀ acc, okFrom 0 acc = true → okFrom 0 (ls.foldl uniL acc) = true := by
  induction ls with
  | nil => intro acc h; exact h
  | cons l ls ih => intro acc h; exact ih _ (uniL_ok h)
theorem implUnion_l1 (ls : List (List S30)) (l : List S30) (hok : okFrom 0 l = true) (x10 : Int) (Q : List S30 → Prop) (d : Nat) : ∀ (j : Nat) (acc : List S30), l.length - j = d → j ≤ l.length → okFrom 0 acc = true →
    Gets (fun k => impl_Union.l0 k ((l.drop j).foldl insI acc) ls (ls.length : Int) (wrap64 (x10 + 1))) Q → Gets (fun k => impl_Union.l1 k acc ls (ls.length : Int) x10 l (l.length : Int) (j : Int)) Q := by
  have hlen := okFrom_len60 hok
  induction d with
  | zero =>
    intro j acc hd hj ha k
    refine Gets.step (fun k => impl_Union.l1.eq_2 ..) (Gets.neg (by omega) ?_)
    rw [List.drop_eq_nil_of_le (by omega)] at k
    exact k
  | succ d ih =>
    intro j acc hd hj ha k
    have hjl : j < l.length := by omega
    have hal := okFrom_len60 ha
    refine Gets.step (fun k => impl_Union.l1.eq_2 ..) (Gets.pos (by omega) (Gets.pos (by omega) (Gets.pos (by omega) ?_)))
    rw [rdI_get (l := l) (i := (j : Int)) (by simpa using hjl)]
    simp only [Int.toNat_natCast]
    have hm1 := okFrom_iB hok l[j] (List.getElem_mem hjl)
    refine Gets.bindE (implPut1 acc l[j] (by omega)).ev ?_
    rw [wrapId (by omega) (by omega), show (j : Int) + 1 = ((j + 1 : Nat) : Int) by omega]
    rw [List.drop_eq_getElem_cons hjl, List.foldl_cons] at k
    exact ih (j + 1) _ (by omega) (by omega) (okFrom_insI hm1 (by have := iB_bd hm1; omega) ha) k
theorem implUnion_l0 (ls : List (List S30)) (hls : ls.length ≤ 1048576) (hin : ∀ l ∈ ls, l.length ≤ 1048576) (d : Nat) : ∀ (i : Nat) (acc : List S30), ls.length - i = d → i ≤ ls.length → okFrom 0 acc = true → Gets (fun k => impl_Union.l0 k acc ls (ls.length : Int) (i : Int)) (· = (ls.drop i).foldl uniL acc) := by
  induction d with
  | zero =>
    intro i acc hd hi ha
    refine Gets.step (fun k => impl_Union.l0.eq_2 ..) (Gets.neg (by omega) (Gets.ret ?_))
    rw [List.drop_eq_nil_of_le (by omega)]; rfl
  | succ d ih =>
    intro i acc hd hi ha
    have hil : i < ls.length := by omega
    have e : rd_L6 ls (i : Int) = ls[i] := rdL_get hil
    have hl := hin ls[i] (List.getElem_mem hil)
    have nx : ∀ acc', okFrom 0 acc' = true → Gets (fun k => impl_Union.l0 k acc' ls (ls.length : Int) (wrap64 ((i : Int) + 1))) (· = (ls.drop (i + 1)).foldl uniL acc') := by
      intro acc' ha'
      rw [wrapId (by omega) (by omega), show (i : Int) + 1 = ((i + 1 : Nat) : Int) by omega]
      exact ih (i + 1) acc' (by omega) (by omega) ha'
    refine Gets.step (fun k => impl_Union.l0.eq_2 ..) (Gets.pos (by omega) (Gets.pos (by omega) (Gets.pos (by omega) ?_)))
    rw [e, List.drop_eq_getElem_cons hil, List.foldl_cons]
    refine Gets.bind (implItemsOk ls[i] (by omega)) (fun t ht => ?_)
    subst ht
    refine Gets.ite (fun h => ?_) (fun h => ?_)
    · have e2 : uniL acc ls[i] = ls[i].foldl insI acc := by unfold uniL; rw [if_pos h]
      rw [e2]
      have := implUnion_l1 ls ls[i] h (i : Int) (· = (ls.drop (i + 1)).foldl uniL (ls[i].foldl insI acc)) ls[i].length 0 acc (by omega) (by omega) ha (by
        rw [List.drop_zero]
        exact nx _ (ins_fold_ok ls[i] acc ha (okFrom_iB h)))
      exact this
    · have e2 : uniL acc ls[i] = acc := by unfold uniL; rw [if_neg h]
      rw [e2]
      exact nx acc ha
theorem implUnion (ls : List (List S30)) (hls : ls.length ≤ 1048576) (hin : ∀ l ∈ ls, l.length ≤ 1048576) : Gets (fun k => impl_Union.f k ls) (· = uniT ls) := by
  unfold impl_Union.f
  have := implUnion_l0 ls hls hin ls.length 0 [] (by omega) (by omega) rfl
  rw [List.drop_zero] at this
  exact this
theorem specUnion_l1 (ls : List (List S30)) (i : Nat) (hi : i < ls.length) (hin : ls[i].length ≤ 1048576) (Q : List S30 → Prop) (d : Nat) : ∀ (j : Nat) (acc : List S30), ls[i].length - j = d → j ≤ ls[i].length → okFrom 0 acc = true →
    Gets (fun k => spec_Union.l0 k ls (if okFrom 0 ls[i] = true then (ls[i].drop j).foldl insI acc else acc) (wrap64 ((i : Int) + 1))) Q → Gets (fun k => spec_Union.l1 k ls acc (i : Int) (j : Int)) Q := by
  have e : rd_L6 ls (i : Int) = ls[i] := rdL_get hi
  induction d with
  | zero =>
    intro j acc hd hj ha k
    refine Gets.step (fun k => spec_Union.l1.eq_2 ..) (Gets.pos (by omega) (Gets.pos (by omega) (Gets.neg (by rw [e]; omega) ?_)))
    rw [List.drop_eq_nil_of_le (by omega)] at k
    simpa using k
  | succ d ih =>
    intro j acc hd hj ha k
    have hjl : j < ls[i].length := by omega
    have hal := okFrom_len60 ha
    refine Gets.step (fun k => spec_Union.l1.eq_2 ..) (Gets.pos (by omega) (Gets.pos (by omega) (Gets.pos (by rw [e]; omega) ?_)))
    rw [e]
    refine Gets.bind (specItemsOk ls[i] (by omega)) (fun t ht => ?_)
    subst ht
    refine Gets.ite (fun h => Gets.pos (by omega) ?_) (fun h => ?_)
    · rw [rdI_get (l := ls[i]) (i := (j : Int)) (by simpa using hjl)]
      simp only [Int.toNat_natCast]
      have hm1 := okFrom_iB h ls[i][j] (List.getElem_mem hjl)
      refine Gets.bindE (specPut acc ls[i][j] (by omega)).ev ?_
      have ep : putI acc ls[i][j] = insI acc ls[i][j] := by unfold putI; rw [if_pos ⟨ha, hm1⟩]
      rw [ep, wrapId (by omega) (by omega), show (j : Int) + 1 = ((j + 1 : Nat) : Int) by omega]
      refine ih (j + 1) _ (by omega) (by omega) (okFrom_insI hm1 (by have := iB_bd hm1; omega) ha) ?_
      rw [if_pos h] at k ⊢
      rw [List.drop_eq_getElem_cons hjl, List.foldl_cons] at k
      exact k
    · rw [if_neg h] at k
      exact k
theorem specUnion_l0 (ls : List (List S30)) (hls : ls.length ≤ 1048576) (hin : ∀ l ∈ ls, l.length ≤ 1048576) (d : Nat) : ∀ (i : Nat) (acc : List S30), ls.length - i = d → i ≤ ls.length → okFrom 0 acc = true → Gets (fun k => spec_Union.l0 k ls acc (i : Int)) (· = (ls.drop i).foldl uniL acc) := by
  induction d with
  | zero =>
    intro i acc hd hi ha
    refine Gets.step (fun k => spec_Union.l0.eq_2 ..) (Gets.neg (by omega) (Gets.ret ?_))
    rw [List.drop_eq_nil_of_le (by omega)]; rfl
  | succ d ih =>
    intro i acc hd hi ha
    have hil : i < ls.length := by omega
    have hl := hin ls[i] (List.getElem_mem hil)
    refine Gets.step (fun k => spec_Union.l0.eq_2 ..) (Gets.pos (by omega) ?_)
    rw [List.drop_eq_getElem_cons hil, List.foldl_cons]
    refine specUnion_l1 ls i hil hl _ ls[i].length 0 acc (by omega) (by omega) ha ?_
    rw [List.drop_zero, wrapId (by omega) (by omega), show (i : Int) + 1 = ((i + 1 : Nat) : Int) by omega]
    have e2 : (if okFrom 0 ls[i] = true then ls[i].foldl insI acc else acc) = uniL acc ls[i] := rfl
    rw [e2]
    exact ih (i + 1) _ (by omega) (by omega) (uniL_ok ha)
theorem specUnion (ls : List (List S30)) (hls : ls.length ≤ 1048576) (hin : ∀ l ∈ ls, l.length ≤ 1048576) : Gets (fun k => spec_Union.f k ls) (· = uniT ls) := by
  unfold spec_Union.f
  have := specUnion_l0 ls hls hin ls.length 0 [] (by omega) (by omega) rfl
  rw [List.drop_zero] at this
  exact this
def cvSS (ls : List (List S24)) : List (List S30) := ls.map (fun l => l.map cvI)
theorem szItemSL (l : List S24) (m : Int) (hm : 0 ≤ m ∧ m ≤ 1048576) (hl : l.length ≤ maxLen) (hg : ∀ m ∈ l, m.f3.size ≤ maxLen) : Gets (fun k => laws_szItemS.f k l m) (fun r => r < 0 ∨ (0 ≤ r ∧ r + (l.length : Int) ≤ m ∧ sizedI l)) := by
  unfold maxLen at hl
  unfold laws_szItemS.f
  rw [wrapId (by omega) (by omega)]
  refine Gets.ite (fun h => Gets.ret (.inl (by omega))) (fun h => ?_)
  refine (szItemS_l0 l (by omega) hg l.length 0 _ (by omega) (by omega) (by omega) (by omega)).mono (fun r hr => ?_)
  rcases hr with hr | ⟨h2, h3, h4⟩
  · exact .inl hr
  · exact .inr ⟨h2, by omega, by omega, fun x hx => h4 x (by simpa using hx)⟩
theorem szSS_l0 (ls : List (List S24)) (hls : ls.length ≤ 1048576) (hg : ∀ l ∈ ls, l.length ≤ maxLen ∧ ∀ m ∈ l, m.f3.size ≤ maxLen) (d : Nat) : ∀ (i : Nat) (m : Int), ls.length - i = d → i ≤ ls.length → 0 ≤ m → m ≤ 1048576 → Gets (fun k => laws_szItemSS.l0 k ls m (i : Int)) (fun r => r < 0 ∨ (0 ≤ r ∧ r + (((ls.drop i).map List.length).sum : Nat) ≤ m ∧ ∀ l ∈ ls.drop i, sizedI l)) := by
  induction d with
  | zero =>
    intro i m hd hi h0 h1
    refine Gets.step (fun k => laws_szItemSS.l0.eq_2 ..) (Gets.neg (by omega) (Gets.ret (.inr ⟨h0, ?_, ?_⟩)))
    · rw [List.drop_eq_nil_of_le (by omega)]; simp
    · rw [List.drop_eq_nil_of_le (by omega)]
      intro l hl; cases hl
  | succ d ih =>
    intro i m hd hi h0 h1
    have hil : i < ls.length := by omega
    have e : rd_L5 ls (i : Int) = ls[i] := rdL_get hil
    have hgi := hg ls[i] (List.getElem_mem hil)
    refine Gets.step (fun k => laws_szItemSS.l0.eq_2 ..) (Gets.pos (by omega) (Gets.pos (by omega) ?_))
    rw [e]
    refine Gets.bind (szItemSL ls[i] m ⟨h0, h1⟩ hgi.1 hgi.2) (fun r hr => Gets.ite (fun _ => Gets.ret (.inl (by omega))) (fun h => ?_))
    obtain ⟨a, b, c⟩ := hr.resolve_left h
    rw [wrapId (by omega) (by omega), show (i : Int) + 1 = ((i + 1 : Nat) : Int) by omega]
    refine (ih (i + 1) r (by omega) (by omega) a (by omega)).mono (fun q hq => ?_)
    rcases hq with hq | ⟨q1, q2, q3⟩
    · exact .inl hq
    · refine .inr ⟨q1, ?_, fun l hl => ?_⟩
      · rw [List.drop_eq_getElem_cons hil, List.map_cons, List.sum_cons]; omega
      · rw [List.drop_eq_getElem_cons hil] at hl
        rcases List.mem_cons.1 hl with rfl | hl
        · exact c
        · exact q3 l hl
theorem szSS (ls : List (List S24)) (hls : ls.length ≤ maxLen) (hg : ∀ l ∈ ls, l.length ≤ maxLen ∧ ∀ m ∈ l, m.f3.size ≤ maxLen) : Gets (fun k => laws_szItemSS.f k ls 1048576) (fun r => r < 0 ∨ (ls.length ≤ 1048576 ∧ (ls.map List.length).sum ≤ 1048576 ∧ ∀ l ∈ ls, sizedI l)) := by
  unfold maxLen at hls
  unfold laws_szItemSS.f
  rw [wrapId (by omega) (by omega)]
  refine Gets.ite (fun h => Gets.ret (.inl (by omega))) (fun h => ?_)
  refine (szSS_l0 ls (by omega) hg ls.length 0 _ (by omega) (by omega) (by omega) (by omega)).mono (fun r hr => ?_)
  rcases hr with hr | ⟨h2, h3, h4⟩
  · exact .inl hr
  · exact .inr ⟨by omega, by simp only [List.drop_zero] at h3; omega, fun x hx => h4 x (by simpa using hx)⟩
theorem toSS_l0 (ls : List (List S24)) (hls : ls.length ≤ 1048576) (hg : ∀ l ∈ ls, l.length ≤ 1048576) (d : Nat) : ∀ i : Nat, ls.length - i = d → i ≤ ls.length → Gets (fun k => laws_toItemSS.l0 k ls ((cvSS ls).take i ++ List.replicate ((cvSS ls).length - i) []) (i : Int)) (· = cvSS ls) := by
  have hcl : (cvSS ls).length = ls.length := by simp [cvSS]
  induction d with
  | zero =>
    intro i hd hi
    obtain rfl : i = ls.length := by omega
    refine Gets.step (fun k => laws_toItemSS.l0.eq_2 ..) (Gets.neg (by omega) (Gets.ret ?_))
    rw [List.take_of_length_le (by omega), hcl, Nat.sub_self]; simp
  | succ d ih =>
    intro i hd hi
    have hil : i < ls.length := by omega
    have e : rd_L5 ls (i : Int) = ls[i] := rdL_get hil
    have hgi := hg ls[i] (List.getElem_mem hil)
    refine Gets.step (fun k => laws_toItemSS.l0.eq_2 ..) (Gets.pos (by omega) (Gets.pos (by omega) ?_))
    rw [e]
    refine Gets.bindE (toItemS ls[i] (by omega)).ev (Gets.pos (by simp [hcl]; omega) ?_)
    rw [wrapId (by omega) (by omega), show (i : Int) + 1 = ((i + 1 : Nat) : Int) by omega, Int.toNat_natCast]
    have e2 : ((cvSS ls).take i ++ List.replicate ((cvSS ls).length - i) []).set i (ls[i].map cvI) = (cvSS ls).take (i + 1) ++ List.replicate ((cvSS ls).length - (i + 1)) [] := by
      rw [List.set_append_right _ _ (by rw [List.length_take]; omega), List.length_take, Nat.min_eq_left (by omega), Nat.sub_self, show (cvSS ls).length - i = ((cvSS ls).length - (i + 1)) + 1 by omega, List.replicate_succ, List.set_cons_zero, List.take_succ_eq_append_getElem (by omega)]
      simp [cvSS]
    rw [e2]
    exact ih (i + 1) (by omega) (by omega)
theorem toSS (ls : List (List S24)) (hls : ls.length ≤ 1048576) (hg : ∀ l ∈ ls, l.length ≤ 1048576) : Gets (fun k => laws_toItemSS.f k ls) (· = cvSS ls) := by
  unfold laws_toItemSS.f
  refine Gets.pos (by omega) (Gets.pos (by omega) ?_)
  have := toSS_l0 ls hls hg ls.length 0 (by omega) (by omega)
  simpa [cvSS] using this
theorem eqSS_l0 (ls : List (List S30)) (hls : ls.length ≤ 1048576) (hg : ∀ l ∈ ls, l.length ≤ 1048576) (d : Nat) : ∀ i : Nat, ls.length - i = d → i ≤ ls.length → Gets (fun k => laws_eqItemSS.l0 k ls ls (i : Int)) (· = true) := by
  induction d with
  | zero => intro i hd hi; exact Gets.step (fun k => laws_eqItemSS.l0.eq_2 ..) (Gets.neg (by omega) (Gets.ret rfl))
  | succ d ih =>
    intro i hd hi
    have hil : i < ls.length := by omega
    have e : rd_L6 ls (i : Int) = ls[i] := rdL_get hil
    have hgi := hg ls[i] (List.getElem_mem hil)
    refine Gets.step (fun k => laws_eqItemSS.l0.eq_2 ..) (Gets.pos (by omega) (Gets.pos (by omega) (Gets.pos (by omega) ?_)))
    rw [e, wrapId (by omega) (by omega), show (i : Int) + 1 = ((i + 1 : Nat) : Int) by omega]
    exact Gets.bind (eqItemS_true ls[i] (by omega)) (fun t ht => Gets.pos ht (ih (i + 1) (by omega) (by omega)))
theorem eqSS (ls : List (List S30)) (hls : ls.length ≤ 1048576) (hg : ∀ l ∈ ls, l.length ≤ 1048576) : Gets (fun k => laws_eqItemSS.f k ls ls) (· = true) := by
  unfold laws_eqItemSS.f
  exact Gets.pos rfl (eqSS_l0 ls hls hg ls.length 0 (by omega) (by omega))
theorem markSS_go (ls : List (List S30)) : ∀ (m : Int), (∀ l ∈ ls, l.length ≤ 1048576) → 0 ≤ m → m + 4 * (ls.map List.length).sum ≤ 9000000 → Gets (fun k => laws_markItemSS.go k ls m) (fun r => r = m + 4 * (ls.map List.length).sum) := by
  induction ls with
  | nil => intro m _ _ _; exact Gets.ret (by simp)
  | cons l ls ih =>
    intro m hg h0 h1
    simp only [List.map_cons, List.sum_cons] at h1 ⊢
    unfold laws_markItemSS.go
    refine Gets.bindE (markItemS l m (by omega) (by omega)).ev ?_
    simp only
    refine (ih (m + 4 * l.length) (fun x hx => hg x (by simp [hx])) (by omega) (by omega)).mono (fun r hr => ?_)
    rw [hr]; omega
theorem markSS (ls : List (List S30)) (h1 : ls.length ≤ 1048576) (h2 : ∀ l ∈ ls, l.length ≤ 1048576) (h3 : (ls.map List.length).sum ≤ 1048576) : Gets (fun k => laws_markItemSS.f k ls 1) (fun r => r = 1 + 4 * (ls.map List.length).sum) := by
  unfold laws_markItemSS.f
  exact Gets.pos (by omega) (markSS_go ls 1 h2 (by omega) (by omega))
theorem FnExactUnion : Stat.FnExactUnion := by
  intro ls hl
  refine Gets.rounds ?_
  unfold laws_FnExactUnion.f
  refine Gets.bind (szSS ls hl.1 (fun l h => ⟨(hl.2 l h).1, fun m hm => ((hl.2 l h).2 m hm).2.2.2⟩)) (fun r hr => ?_)
  refine Gets.ite (fun _ => Gets.ret rfl) (fun h => ?_)
  obtain ⟨h1, h2, h3⟩ := hr.resolve_left h
  have hin : ∀ l ∈ ls, l.length ≤ 1048576 := fun l hl => (h3 l hl).1
  have c1 : (cvSS ls).length ≤ 1048576 := by simpa [cvSS] using h1
  have c2 : ∀ l ∈ cvSS ls, l.length ≤ 1048576 := by
    intro l hl
    obtain ⟨x, hx, rfl⟩ := List.mem_map.1 hl
    simpa using hin x hx
  have c3 : ((cvSS ls).map List.length).sum ≤ 1048576 := by
    have : (cvSS ls).map List.length = ls.map List.length := by simp [cvSS, Function.comp_def]
    rw [this]; exact h2
  have tos := (toSS ls h1 hin).ev
  have im := (implUnion (cvSS ls) c1 c2).ev
  have hw : (uniT (cvSS ls)).length ≤ 60 := okFrom_len60 (uniT_ok _ [] rfl)
  refine Gets.bindE tos (Gets.bindE (specUnion (cvSS ls) c1 c2).ev (Gets.bindE tos (Gets.bindE im ?_)))
  generalize uniT (cvSS ls) = F at hw im ⊢
  refine Gets.bind (eqItemS_true _ (by omega)) (fun e he => Gets.pos he (Gets.bindE tos ?_))
  refine Gets.bind (eqSS _ c1 c2) (fun e he => Gets.pos he (Gets.bind (markSS _ c1 c2 c3) (fun r hr => ?_)))
  refine Gets.neg (by omega) (Gets.bind (eqItemS_true _ (by omega)) (fun e he => ?_))
  refine Gets.step (fun k => laws_FnExactUnion.j0.eq_2 ..) (Gets.neg (by rw [he]; simp) (Gets.bindE (markItemS _ 1 (by omega) (by omega)).ev ?_))
  refine Gets.bindE (heldItemS 1 _ (by omega) (by omega)).ev ?_
  refine Gets.neg (by omega) (Gets.pos rfl (Gets.bindE tos (Gets.bindE im ?_)))
  refine Gets.bind (eqItemS_true _ (by omega)) (fun e he => Gets.pos he (Gets.bindE (heldItemS 1 _ (by omega) (by omega)).ev ?_))
  exact Gets.neg (by omega) (Gets.pos rfl (Gets.ret rfl))

end Go.Proofs.Ytfkhpenpdeknmaa.Pure
