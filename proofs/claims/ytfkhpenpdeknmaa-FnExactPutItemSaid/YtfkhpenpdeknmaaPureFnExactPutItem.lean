/- The law FnExactPutItem holds of every input: the program's PutItem is the reference's; no condition. -/
import Derived.Test.YtfkhpenpdeknmaaStatFnExactPutItem
import Derived.Lib.Strings
set_option linter.unusedVariables false
set_option linter.unusedSimpArgs false
namespace Go.Proofs.Ytfkhpenpdeknmaa.Pure
open Go.RowKit Go.Proofs.Ytfkhpenpdeknmaa.PFnExactPutItem Go.Proofs.YtfkhpenpdeknmaaW.PrintWords Go.Proofs.YtfkhpenpdeknmaaW.PrintLast

/-! ### plain words: from some number of rounds on -/
def Gets {α : Type} (f : Nat → Option α) (Q : α → Prop) : Prop := ∃ r, Ev f r ∧ Q r
theorem Gets.ret {α : Type} {Q : α → Prop} {r : α} (h : Q r) : Gets (fun _ => some r) Q := ⟨r, Ev.now r, h⟩
theorem Gets.none {α : Type} {Q : α → Prop} (h : False) : Gets (fun _ => (Option.none : Option α)) Q := h.elim
theorem Gets.step {α : Type} {g f : Nat → Option α} {Q : α → Prop} (h : ∀ k, g (k + 1) = f k) (k : Gets f Q) : Gets g Q := by
  obtain ⟨r, hr, hq⟩ := k
  exact ⟨r, Ev.step h hr, hq⟩
theorem Ev.ite {α : Type} {c : Prop} [Decidable c] {f g : Nat → Option α} {r : α} (h : c → Ev f r) (k : ¬ c → Ev g r) : Ev (fun n => if c then f n else g n) r := by
  by_cases hc : c
  · simp only [hc, if_true]; exact h hc
  · simp only [hc, if_false]; exact k hc
theorem Gets.ite {α : Type} {c : Prop} [Decidable c] {f g : Nat → Option α} {Q : α → Prop} (h : c → Gets f Q) (k : ¬ c → Gets g Q) : Gets (fun n => if c then f n else g n) Q := by
  by_cases hc : c
  · simp only [hc, if_true]; exact h hc
  · simp only [hc, if_false]; exact k hc
theorem Gets.pos {α : Type} {c : Prop} [Decidable c] {f g : Nat → Option α} {Q : α → Prop} (hc : c) (h : Gets f Q) : Gets (fun n => if c then f n else g n) Q := by
  simp only [hc, if_true]; exact h
theorem Gets.neg {α : Type} {c : Prop} [Decidable c] {f g : Nat → Option α} {Q : α → Prop} (hc : ¬ c) (h : Gets g Q) : Gets (fun n => if c then f n else g n) Q := by
  simp only [hc, if_false]; exact h
theorem Gets.bind {α β : Type} {g : Nat → Option α} {f : Nat → α → Option β} {P : α → Prop} {Q : β → Prop} (h : Gets g P) (k : ∀ a, P a → Gets (fun n => f n a) Q) : Gets (fun n => (g n).bind (f n)) Q := by
  obtain ⟨a, ha, hp⟩ := h
  obtain ⟨r, hr, hq⟩ := k a hp
  exact ⟨r, Ev.bind ha hr, hq⟩
theorem Gets.bindE {α β : Type} {g : Nat → Option α} {f : Nat → α → Option β} {a : α} {Q : β → Prop} (h : Ev g a) (k : Gets (fun n => f n a) Q) : Gets (fun n => (g n).bind (f n)) Q := by
  obtain ⟨r, hr, hq⟩ := k
  exact ⟨r, Ev.bind h hr, hq⟩
theorem Gets.mono {α : Type} {f : Nat → Option α} {P Q : α → Prop} (h : Gets f P) (k : ∀ a, P a → Q a) : Gets f Q := by
  obtain ⟨r, hr, hp⟩ := h
  exact ⟨r, hr, k r hp⟩
theorem Gets.rounds {α : Type} {f : Nat → Option α} {r : α} (h : Gets f (· = r)) : ∃ k, f k = some r := by
  obtain ⟨a, ha, rfl⟩ := h
  exact ha.rounds
theorem Gets.ev {α : Type} {f : Nat → Option α} {r : α} (h : Gets f (· = r)) : Ev f r := by
  obtain ⟨a, ha, rfl⟩ := h
  exact ha
theorem Ev.gets {α : Type} {f : Nat → Option α} {r : α} {Q : α → Prop} (h : Ev f r) (hq : Q r) : Gets f Q := ⟨r, h, hq⟩
theorem Gets.same {α : Type} {o : Option α} {Q : α → Prop} {r : α} (h : o = some r) (hq : Q r) : Gets (fun _ => o) Q := by
  subst h; exact Gets.ret hq
theorem wrapId {x : Int} (h0 : -9223372036854775808 ≤ x) (h1 : x ≤ 9223372036854775807) : wrap64 x = x := by
  unfold wrap64; omega
theorem i64_bd {n : Int} (h : (Lit.int .i64 n).wf = true) : -9223372036854775808 ≤ n ∧ n ≤ 9223372036854775807 := by
  have hm : IntKind.i64.min = -9223372036854775808 := rfl
  simp [Lit.wf, hm] at h
  exact h
theorem boolEq {a b : Bool} {P Q : Prop} (ha : a = true ↔ P) (hb : b = true ↔ Q) (h : P ↔ Q) : a = b := by
  rw [Bool.eq_iff_iff, ha, hb, h]
theorem tmod_nn {a b : Int} (h : 0 ≤ a) : Int.tmod a b = a % b := Int.tmod_eq_emod_of_nonneg h
theorem tdiv_nn {a b : Int} (h : 0 ≤ a) : Int.tdiv a b = a / b := Int.tdiv_eq_ediv_of_nonneg h

/-! ### rows of numbers -/
theorem rd_get {l : List Int} {i : Int} (h : i.toNat < l.length) : rd l i = l[i.toNat] := by
  unfold rd; rw [List.getD_eq_getElem?_getD, List.getElem?_eq_getElem h]; rfl
theorem fill_step {α : Type} (l : List α) (d : α) (i : Nat) (h : i < l.length) : (l.take i ++ List.replicate (l.length - i) d).set i l[i] = l.take (i + 1) ++ List.replicate (l.length - (i + 1)) d := by
  have e : List.replicate (l.length - i) d = d :: List.replicate (l.length - (i + 1)) d := by
    rw [show l.length - i = (l.length - (i + 1)) + 1 by omega]; rfl
  rw [e, List.set_append_right _ _ (by rw [List.length_take]; omega), List.length_take, show i - min i l.length = 0 by omega, List.set_cons_zero, List.take_succ_eq_append_getElem h, List.append_assoc]
  rfl
theorem drop_at {α : Type} (l : List α) (i : Nat) (h : i < l.length) : l.drop i = l[i] :: l.drop (i + 1) := List.drop_eq_getElem_cons h
def marks (k : Int) (n : Nat) : List Int := (List.range n).map (fun (i : Nat) => k + (i : Int))
theorem marks_length (k : Int) (n : Nat) : (marks k n).length = n := by simp [marks]
theorem marks_get (k : Int) (n i : Nat) (h : i < n) : (marks k n)[i]'(by rw [marks_length]; exact h) = k + i := by simp [marks]

def cvI (m : S24) : S30 := ⟨m.f0, m.f1, m.f2, m.f3⟩
theorem rdI_get {l : List S30} {i : Int} (h : i.toNat < l.length) : rd_T30 l i = l[i.toNat] := by
  unfold rd_T30; rw [List.getD_eq_getElem?_getD, List.getElem?_eq_getElem h]; rfl
theorem rdIl_get {l : List S24} {i : Int} (h : i.toNat < l.length) : rd_T24 l i = l[i.toNat] := by
  unfold rd_T24; rw [List.getD_eq_getElem?_getD, List.getElem?_eq_getElem h]; rfl

theorem szItem (a b c : Int) (s : ByteArray) (m : Int) (hs : s.size ≤ maxLen) (hm : 0 ≤ m ∧ m ≤ 9000000) : laws_szItem.f a b c s m = some (if m - s.size < 0 then -1 else m - s.size) := by
  unfold maxLen at hs
  unfold laws_szItem.f
  rw [wrapId (by omega) (by omega)]
  split <;> rfl

def sizedI (l : List S24) : Prop := l.length ≤ 1048576 ∧ ∀ m ∈ l, m.f3.size ≤ 1048576
theorem szItemS_l0 (l : List S24) (hl : l.length ≤ 1048576) (hg : ∀ m ∈ l, m.f3.size ≤ maxLen) (d : Nat) : ∀ (i : Nat) (m : Int), l.length - i = d → i ≤ l.length → 0 ≤ m → m ≤ 1048576 → Gets (fun k => laws_szItemS.l0 k l m (i : Int)) (fun r => r < 0 ∨ (0 ≤ r ∧ r ≤ m ∧ ∀ x ∈ l.drop i, x.f3.size ≤ 1048576)) := by
  induction d with
  | zero =>
    intro i m hd hi h0 h1
    refine Gets.step (fun k => laws_szItemS.l0.eq_2 ..) (Gets.neg (by omega) (Gets.ret (.inr ⟨h0, Int.le_refl _, ?_⟩)))
    rw [List.drop_of_length_le (by omega)]
    simp
  | succ d ih =>
    intro i m hd hi h0 h1
    refine Gets.step (fun k => laws_szItemS.l0.eq_2 ..) (Gets.pos (by omega) (Gets.pos (by omega) ?_))
    rw [rdIl_get (by omega), szItem _ _ _ _ _ (hg _ (List.getElem_mem _)) (by omega), wrapId (by omega) (by omega), drop_at l i (by omega)]
    simp only [Int.toNat_natCast, Option.bind_some]
    rw [show ((i : Int) + 1) = ((i + 1 : Nat) : Int) by omega]
    by_cases hn : m - (l[i].f3.size : Int) < 0
    · simp only [hn, if_true]
      exact Gets.pos (by omega) (Gets.ret (.inl (by omega)))
    · simp only [hn, if_false]
      refine (ih (i + 1) _ (by omega) (by omega) (by omega) (by omega)).mono (fun r hr => ?_)
      rcases hr with hr | ⟨h2, h3, h4⟩
      · exact .inl hr
      · refine .inr ⟨h2, by omega, fun x hx => ?_⟩
        rcases List.mem_cons.1 hx with rfl | hx
        · omega
        · exact h4 x hx
theorem szItemS (l : List S24) (m : Int) (hm : 0 ≤ m ∧ m ≤ 1048576) (hl : l.length ≤ maxLen) (hg : ∀ m ∈ l, m.f3.size ≤ maxLen) : Gets (fun k => laws_szItemS.f k l m) (fun r => r < 0 ∨ (0 ≤ r ∧ r ≤ m ∧ sizedI l)) := by
  unfold maxLen at hl
  unfold laws_szItemS.f
  rw [wrapId (by omega) (by omega)]
  refine Gets.ite (fun h => Gets.ret (.inl (by omega))) (fun h => ?_)
  refine (szItemS_l0 l (by omega) hg l.length 0 _ (by omega) (by omega) (by omega) (by omega)).mono (fun r hr => ?_)
  rcases hr with hr | ⟨h2, h3, h4⟩
  · exact .inl hr
  · exact .inr ⟨h2, by omega, by omega, fun x hx => h4 x (by simpa using hx)⟩

theorem toItemS_l0 (l : List S24) (hl : l.length ≤ 7036874417766) (d : Nat) : ∀ i : Nat, l.length - i = d → i ≤ l.length → Gets (fun k => laws_toItemS.l0 k l ((l.map cvI).take i ++ List.replicate ((l.map cvI).length - i) z30) (i : Int)) (· = l.map cvI) := by
  induction d with
  | zero =>
    intro i hd hi
    refine Gets.step (fun k => laws_toItemS.l0.eq_2 ..) (Gets.neg (by omega) (Gets.ret ?_))
    rw [List.take_of_length_le (by simp; omega), show (l.map cvI).length - i = 0 by simp; omega]
    simp
  | succ d ih =>
    intro i hd hi
    refine Gets.step (fun k => laws_toItemS.l0.eq_2 ..) (Gets.pos (by omega) (Gets.pos (by omega) ?_))
    simp only [laws_toItem.f, Option.bind_some]
    refine Gets.pos (by simp; omega) ?_
    rw [rdIl_get (by omega), wrapId (by omega) (by omega)]
    simp only [Int.toNat_natCast]
    have e : (⟨l[i].f0, l[i].f1, l[i].f2, l[i].f3⟩ : S30) = (l.map cvI)[i]'(by simp; omega) := by simp [cvI]
    rw [e, fill_step (l.map cvI) z30 i (by simp; omega), show ((i : Int) + 1) = ((i + 1 : Nat) : Int) by omega]
    exact ih (i + 1) (by omega) (by omega)
theorem toItemS (l : List S24) (hl : l.length ≤ 7036874417766) : Gets (fun k => laws_toItemS.f k l) (· = l.map cvI) := by
  unfold laws_toItemS.f
  refine Gets.pos (by omega) (Gets.pos (by omega) ?_)
  have h := toItemS_l0 l hl l.length 0 (by omega) (by omega)
  simpa using h

/-! ### texts as lists of numbers -/
theorem bytesOf_inj {a b : ByteArray} (h : bytesOf a = bytesOf b) : a = b := by
  have hl : a.data.toList = b.data.toList := by
    unfold bytesOf at h
    exact List.map_inj_right (fun x y hxy => UInt8.toNat_inj.1 (by exact_mod_cast hxy)) |>.1 h
  have hd : a.data = b.data := Array.toList_inj.1 hl
  cases a; cases b; cases hd; rfl
theorem toList_iff (a b : ByteArray) : a.toList = b.toList ↔ a = b := by
  rw [Lib.toList_data, Lib.toList_data]
  exact ⟨fun h => bytesOf_inj (by unfold bytesOf; rw [h]), fun h => by rw [h]⟩
theorem bytesOf_range {s : ByteArray} {x : Int} (h : x ∈ bytesOf s) : 0 ≤ x ∧ x < 256 := by
  unfold bytesOf at h
  obtain ⟨b, _, rfl⟩ := List.mem_map.1 h
  have := b.toNat_lt
  omega
theorem bytesOf_str {xs : List Int} (h : ∀ x ∈ xs, 0 ≤ x ∧ x < 256) : bytesOf (strOfNums xs) = xs := by
  unfold bytesOf
  rw [strOfNums_data, List.map_map]
  conv => rhs; rw [← List.map_id xs]
  refine List.map_congr_left (fun x hx => ?_)
  have := h x hx
  simp only [Function.comp, UInt8.toNat_ofNat', id]
  omega
theorem str_bytesOf (s : ByteArray) : strOfNums (bytesOf s) = s := bytesOf_inj (bytesOf_str (fun _ => bytesOf_range))
theorem bytesOf_extract (s : ByteArray) (a b : Nat) : bytesOf (s.extract a b) = ((bytesOf s).drop a).take (b - a) := by
  unfold bytesOf
  rw [Lib.extract_data, List.map_take, List.map_drop]
theorem bytesOf_app (a b : ByteArray) : bytesOf (a ++ b) = bytesOf a ++ bytesOf b := by
  unfold bytesOf
  rw [← List.map_append]
  congr 1
  first | done | simp
theorem bt_getD (s : ByteArray) (i : Int) : bt s i = (bytesOf s).getD i.toNat 0 := (rd_bytesOf s i).symm
theorem bytesOf_empty : bytesOf (⟨#[]⟩ : ByteArray) = [] := rfl
theorem size_eq (s : ByteArray) : s.size = (bytesOf s).length := (bytesOf_length s).symm
theorem size_app (a b : ByteArray) : (a ++ b).size = a.size + b.size := by simp

theorem eqItem (m n : S30) : laws_eqItem.f m.f0 m.f1 m.f2 m.f3 n.f0 n.f1 n.f2 n.f3 = some true ↔ m = n := by
  unfold laws_eqItem.f
  constructor
  · intro h
    repeat' (split at h)
    all_goals (first | (cases h; done) | skip)
    rename_i h0 h1 h2 h3
    cases m; cases n
    simp only at h0 h1 h2 h3
    rw [toList_iff] at h3
    subst h0 h1 h2 h3
    rfl
  · rintro rfl
    simp
theorem eqItem_some (m n : S30) : ∃ b, laws_eqItem.f m.f0 m.f1 m.f2 m.f3 n.f0 n.f1 n.f2 n.f3 = some b := by
  unfold laws_eqItem.f
  repeat' split
  all_goals exact ⟨_, rfl⟩
theorem eqItem_gets (m n : S30) : Gets (fun _ => laws_eqItem.f m.f0 m.f1 m.f2 m.f3 n.f0 n.f1 n.f2 n.f3) (fun b => b = true ↔ m = n) := by
  obtain ⟨b, hb⟩ := eqItem_some m n
  refine Gets.same hb ?_
  rw [← eqItem m n, hb]
  simp
theorem eqItemS_l0 (a b : List S30) (ha : a.length ≤ 35184372088832) (hab : a.length = b.length) (d : Nat) : ∀ i : Nat, a.length - i = d → i ≤ a.length → Gets (fun k => laws_eqItemS.l0 k a b (i : Int)) (fun r => r = true ↔ a.drop i = b.drop i) := by
  induction d with
  | zero =>
    intro i hd hi
    refine Gets.step (fun k => laws_eqItemS.l0.eq_2 ..) (Gets.neg (by omega) (Gets.ret ?_))
    rw [List.drop_of_length_le (by omega), List.drop_of_length_le (by omega)]
    simp
  | succ d ih =>
    intro i hd hi
    refine Gets.step (fun k => laws_eqItemS.l0.eq_2 ..) (Gets.pos (by omega) (Gets.pos (by omega) (Gets.pos (by omega) ?_)))
    rw [rdI_get (by omega), rdI_get (by omega), wrapId (by omega) (by omega)]
    simp only [Int.toNat_natCast]
    rw [drop_at a i (by omega), drop_at b i (by omega)]
    refine Gets.bind (eqItem_gets _ _) (fun t ht => ?_)
    refine Gets.ite (fun h => ?_) (fun h => Gets.ret ?_)
    · rw [show ((i : Int) + 1) = ((i + 1 : Nat) : Int) by omega]
      refine (ih (i + 1) (by omega) (by omega)).mono (fun r hr => ?_)
      rw [hr]
      simp only [List.cons.injEq, ht.1 h, true_and]
    · have hne : ¬ a[i] = b[i] := fun e => h (ht.2 e)
      simp only [List.cons.injEq, hne, false_and, Bool.false_eq_true]
theorem eqItemS (a b : List S30) (ha : a.length ≤ 35184372088832) : Gets (fun k => laws_eqItemS.f k a b) (fun r => r = true ↔ a = b) := by
  unfold laws_eqItemS.f
  refine Gets.ite (fun h => ?_) (fun h => Gets.ret ?_)
  · exact eqItemS_l0 a b ha (by omega) a.length 0 (by omega) (by omega)
  · simp only [Bool.false_eq_true, false_iff]
    rintro rfl
    exact h rfl
theorem eqItemS_true (a : List S30) (ha : a.length ≤ 35184372088832) : Gets (fun k => laws_eqItemS.f k a a) (fun r => r = true) := (eqItemS a a ha).mono (fun r hr => hr.2 rfl)

theorem markText_l0 (d : Nat) : ∀ (n : Nat) (s : ByteArray), n < 10 ^ d → s.size + d ≤ 1000 → n ≤ 9000000000 → ∃ t, Ev (fun k => laws_markText.l0 k (n : Int) s) t := by
  induction d with
  | zero =>
    intro n s h hs hn
    have e : Gets (fun k => laws_markText.l0 k (n : Int) s) (fun _ => True) := Gets.step (fun k => laws_markText.l0.eq_2 ..) (Gets.neg (by omega) (Gets.pos (by omega) (Gets.ret trivial)))
    obtain ⟨t, ht, _⟩ := e
    exact ⟨t, ht⟩
  | succ d ih =>
    intro n s h hs hn
    have e : Gets (fun k => laws_markText.l0 k (n : Int) s) (fun _ => True) := by
      refine Gets.step (fun k => laws_markText.l0.eq_2 ..) (Gets.ite (fun h1 => ?_) (fun h1 => Gets.pos (by omega) (Gets.ret trivial)))
      simp only [Option.bind_some]
      refine Gets.pos (by rw [strOfNums_size]; simp; omega) ?_
      rw [tdiv_nn (by omega), wrapId (x := (n : Int) / 10) (by omega) (by omega), show (n : Int) / 10 = ((n / 10 : Nat) : Int) by omega]
      obtain ⟨t, ht⟩ := ih (n / 10) (strOfNums [(wrap64 (48 + (Int.tmod n 10))) % 256] ++ s) (by
        have : (10 : Nat) ^ (d + 1) = 10 ^ d * 10 := Nat.pow_succ ..
        rw [Nat.div_lt_iff_lt_mul (by omega)]; omega) (by simp [strOfNums_size]; omega) (by omega)
      exact Ev.gets ht trivial
    obtain ⟨t, ht, _⟩ := e
    exact ⟨t, ht⟩
theorem markText_some (n : Int) (h0 : 0 ≤ n) (h1 : n ≤ 9000000000) : ∃ t, Ev (fun k => laws_markText.f k n) t := by
  by_cases h : n ≤ 0
  · exact ⟨_, (Gets.pos (f := fun _ => some (⟨#[109, 48]⟩ : ByteArray)) (g := fun k => laws_markText.l0 k n (⟨#[]⟩ : ByteArray)) (Q := (· = (⟨#[109, 48]⟩ : ByteArray))) h (Gets.ret rfl)).ev⟩
  · obtain ⟨m, rfl⟩ := Int.eq_ofNat_of_zero_le h0
    obtain ⟨t, ht⟩ := markText_l0 10 m (⟨#[]⟩ : ByteArray) (by have : (10 : Nat) ^ 10 = 10000000000 := by decide
                                                               omega) (by decide) (by omega)
    exact ⟨t, (Gets.neg (f := fun _ => some (⟨#[109, 48]⟩ : ByteArray)) h (Ev.gets (Q := (· = t)) ht rfl)).ev⟩
/-- The text that marks n. -/
noncomputable def mtx (n : Int) : ByteArray := if h : 0 ≤ n ∧ n ≤ 9000000000 then Classical.choose (markText_some n h.1 h.2) else ⟨#[]⟩
theorem markText (n : Int) (h0 : 0 ≤ n) (h1 : n ≤ 9000000000) : Ev (fun k => laws_markText.f k n) (mtx n) := by
  unfold mtx
  rw [dif_pos ⟨h0, h1⟩]
  exact Classical.choose_spec (markText_some n h0 h1)

noncomputable def markI (k : Int) : S30 := ⟨k, k + 1, k + 2, mtx (k + 3)⟩
noncomputable def marksI (k : Int) (n : Nat) : List S30 := (List.range n).map (fun (i : Nat) => markI (k + 4 * (i : Int)))
theorem marksI_length (k : Int) (n : Nat) : (marksI k n).length = n := by simp [marksI]
theorem rdI_set {l : List S30} {i : Nat} {v : S30} (h : i < l.length) : rd_T30 (l.set i v) (i : Int) = v := by
  rw [rdI_get (by simp; omega)]; simp
theorem markItemS_l0 (n : Nat) (m : Int) (hn : n ≤ 9000000) (hm : 0 ≤ m ∧ m ≤ 9000000) (d : Nat) : ∀ (i : Nat) (l : List S30), n - i = d → i ≤ n → l.length = n → l.take i = marksI m i → Gets (fun k => laws_markItemS.l0 k l (m + 4 * i) (i : Int)) (· = (m + 4 * n, marksI m n)) := by
  induction d with
  | zero =>
    intro i l hd hi hl ht
    refine Gets.step (fun k => laws_markItemS.l0.eq_2 ..) (Gets.neg (by omega) (Gets.ret ?_))
    obtain rfl : i = n := by omega
    rw [List.take_of_length_le (by omega)] at ht
    rw [ht]
  | succ d ih =>
    intro i l hd hi hl ht
    refine Gets.step (fun k => laws_markItemS.l0.eq_2 ..) (Gets.pos (by omega) (Gets.pos (by omega) ?_))
    simp only [Option.bind_some, Int.toNat_natCast, List.set_set]
    rw [wrapId (x := m + 4 * (i : Int) + 1) (by omega) (by omega), wrapId (x := m + 4 * (i : Int) + 1 + 1) (by omega) (by omega), wrapId (x := m + 4 * (i : Int) + 1 + 1 + 1) (by omega) (by omega), wrapId (x := m + 4 * (i : Int) + 1 + 1 + 1 + 1) (by omega) (by omega), wrapId (x := (i : Int) + 1) (by omega) (by omega)]
    refine Gets.bindE (markText _ (by omega) (by omega)) ?_
    rw [rdI_set (by omega), rdI_set (by omega), rdI_set (by omega)]
    rw [show ((i : Int) + 1) = ((i + 1 : Nat) : Int) by omega, show m + 4 * (i : Int) + 1 + 1 + 1 + 1 = m + 4 * ((i + 1 : Nat) : Int) by omega]
    refine ih (i + 1) _ (by omega) (by omega) (by simpa using hl) ?_
    rw [List.take_succ_eq_append_getElem (by rw [List.length_set]; omega), List.getElem_set_self, List.take_set_of_le (by omega), ht]
    simp only [marksI, List.range_succ, List.map_append, List.map_cons, List.map_nil, markI, show m + 4 * (i : Int) + 1 + 1 = m + 4 * (i : Int) + 2 by omega, show m + 4 * (i : Int) + 2 + 1 = m + 4 * (i : Int) + 3 by omega]
theorem markItemS (l : List S30) (m : Int) (hn : l.length ≤ 9000000) (hm : 0 ≤ m ∧ m ≤ 9000000) : Gets (fun k => laws_markItemS.f k l m) (· = (m + 4 * l.length, marksI m l.length)) := by
  unfold laws_markItemS.f
  have h := markItemS_l0 l.length m hn hm l.length 0 l (by omega) (by omega) rfl (by simp [marksI])
  simpa using h

theorem marksI_get (k : Int) (n i : Nat) (h : i < n) : (marksI k n)[i]'(by rw [marksI_length]; exact h) = markI (k + 4 * i) := by simp [marksI]
theorem heldItemS_l0 (n : Nat) (m : Int) (hn : n ≤ 9000000) (hm : 0 ≤ m ∧ m ≤ 9000000) (d : Nat) : ∀ (i : Nat), n - i = d → i ≤ n → Gets (fun k => laws_heldItemS.l0 k (marksI m n) (m + 4 * i) (i : Int)) (· = m + 4 * n) := by
  induction d with
  | zero =>
    intro i hd hi
    refine Gets.step (fun k => laws_heldItemS.l0.eq_2 ..) (Gets.neg (by rw [marksI_length]; omega) (Gets.ret ?_))
    rw [show i = n by omega]
  | succ d ih =>
    intro i hd hi
    refine Gets.step (fun k => laws_heldItemS.l0.eq_2 ..) (Gets.pos (by rw [marksI_length]; omega) (Gets.pos (by omega) ?_))
    have e : rd_T30 (marksI m n) (i : Int) = markI (m + 4 * i) := by
      rw [rdI_get (by rw [marksI_length]; omega)]
      exact marksI_get m n i (by omega)
    simp only [e]
    rw [wrapId (x := m + 4 * (i : Int) + 1) (by omega) (by omega), wrapId (x := m + 4 * (i : Int) + 1 + 1) (by omega) (by omega), wrapId (x := m + 4 * (i : Int) + 1 + 1 + 1) (by omega) (by omega), wrapId (x := m + 4 * (i : Int) + 1 + 1 + 1 + 1) (by omega) (by omega), wrapId (x := (i : Int) + 1) (by omega) (by omega)]
    refine Gets.pos rfl (Gets.pos rfl (Gets.pos ?_ (Gets.bindE (markText _ (by omega) (by omega)) (Gets.pos ?_ ?_))))
    · show m + 4 * (i : Int) + 2 = _; omega
    · show (mtx (m + 4 * (i : Int) + 3)).toList = _
      rw [show m + 4 * (i : Int) + 3 = m + 4 * (i : Int) + 1 + 1 + 1 by omega]
    · rw [show ((i : Int) + 1) = ((i + 1 : Nat) : Int) by omega, show m + 4 * (i : Int) + 1 + 1 + 1 + 1 = m + 4 * ((i + 1 : Nat) : Int) by omega]
      exact ih (i + 1) (by omega) (by omega)
theorem heldItemS (m : Int) (n : Nat) (hn : n ≤ 9000000) (hm : 0 ≤ m ∧ m ≤ 9000000) : Gets (fun k => laws_heldItemS.f k (marksI m n) m) (· = m + 4 * n) := by
  unfold laws_heldItemS.f
  have h := heldItemS_l0 n m hn hm n 0 (by omega) (by omega)
  simpa using h

theorem inR (x a b : Int) : impl_inRange.f x a b = some (decide (a ≤ x ∧ x ≤ b)) := by
  unfold impl_inRange.f
  by_cases h : x ≥ a
  · rw [if_pos h]; simp [show a ≤ x from h]
  · rw [if_neg h]; simp [show ¬ a ≤ x from h]

theorem inS (x a b : Int) : spec_l01In.f x a b = some (decide (a ≤ x ∧ x ≤ b)) := by
  unfold spec_l01In.f
  by_cases h : x ≥ a
  · rw [if_pos h]; simp [show a ≤ x from h]
  · rw [if_neg h]; simp [show ¬ a ≤ x from h]

def itemB (a b c : Int) (s : ByteArray) : Bool := decide ((1 ≤ a ∧ a ≤ 60) ∧ (1 ≤ b ∧ b ≤ 5) ∧ (1 ≤ c ∧ c ≤ 2) ∧ (s.size : Int) ≤ 60)
theorem implItemOk (a b c : Int) (s : ByteArray) : impl_ItemOk.f a b c s = some (itemB a b c s) := by
  unfold impl_ItemOk.f impl_isDaemon.f impl_isLevel.f itemB
  simp only [inR, Option.bind_some, decide_eq_true_eq]
  by_cases h1 : 1 ≤ a ∧ a ≤ 60
  · rw [if_pos h1]
    by_cases h2 : 1 ≤ b ∧ b ≤ 5
    · rw [if_pos h2]
      by_cases h3 : c = 1
      · rw [if_pos h3]; simp only [Option.bind_some, if_true]; congr 1; rw [decide_eq_decide]; omega
      · rw [if_neg h3]; simp only [Option.bind_some, beq_iff_eq]
        by_cases h4 : c = 2
        · rw [if_pos h4]; congr 1; rw [decide_eq_decide]; omega
        · rw [if_neg h4]; congr 1; symm; rw [decide_eq_false_iff_not]; omega
    · rw [if_neg h2]; congr 1; symm; rw [decide_eq_false_iff_not]; exact fun h => h2 h.2.1
  · rw [if_neg h1]; congr 1; symm; rw [decide_eq_false_iff_not]; exact fun h => h1 h.1
theorem specItemOk (a b c : Int) (s : ByteArray) : spec_ItemOk.f a b c s = some (itemB a b c s) := by
  unfold spec_ItemOk.f itemB
  simp only [inS, Option.bind_some, decide_eq_true_eq]
  by_cases h1 : 1 ≤ a ∧ a ≤ 60
  · rw [if_pos h1]
    by_cases h2 : 1 ≤ b ∧ b ≤ 5
    · rw [if_pos h2]
      by_cases h3 : 1 ≤ c ∧ c ≤ 2
      · rw [if_pos h3]; congr 1; rw [decide_eq_decide]; omega
      · rw [if_neg h3]; congr 1; symm; rw [decide_eq_false_iff_not]; exact fun h => h3 h.2.2.1
    · rw [if_neg h2]; congr 1; symm; rw [decide_eq_false_iff_not]; exact fun h => h2 h.2.1
  · rw [if_neg h1]; congr 1; symm; rw [decide_eq_false_iff_not]; exact fun h => h1 h.1

def iB (m : S30) : Bool := itemB m.f0 m.f1 m.f2 m.f3
/-- Right items, ascending, above p. -/
def okFrom : Int → List S30 → Bool
  | _, [] => true
  | p, m :: l => iB m && (decide (p < m.f0) && okFrom m.f0 l)
theorem iB_bd {m : S30} (h : iB m = true) : 1 ≤ m.f0 ∧ m.f0 ≤ 60 := by
  unfold iB itemB at h
  have := of_decide_eq_true h
  exact this.1

/-- An item put into ascending items, unless one has its number. -/
def insI : List S30 → S30 → List S30
  | [], m => [m]
  | x :: l, m => if x.f0 < m.f0 then x :: insI l m else if x.f0 = m.f0 then x :: l else m :: x :: l
theorem insI_lt {x m : S30} {l : List S30} (h : x.f0 < m.f0) : insI (x :: l) m = x :: insI l m := by rw [insI, if_pos h]
theorem insI_eq {x m : S30} {l : List S30} (h : x.f0 = m.f0) : insI (x :: l) m = x :: l := by rw [insI, if_neg (by omega), if_pos h]
theorem insI_gt {x m : S30} {l : List S30} (h : m.f0 < x.f0) : insI (x :: l) m = m :: x :: l := by rw [insI, if_neg (by omega), if_neg (by omega)]
theorem insI_length (l : List S30) (m : S30) : (insI l m).length ≤ l.length + 1 := by
  induction l with
  | nil => simp [insI]
  | cons x l ih =>
    unfold insI
    split
    · simp; omega
    · split <;> simp
theorem okFrom_cons {p : Int} {x : S30} {l : List S30} : okFrom p (x :: l) = true ↔ iB x = true ∧ p < x.f0 ∧ okFrom x.f0 l = true := by
  show (iB x && (decide (p < x.f0) && okFrom x.f0 l)) = true ↔ _
  simp [Bool.and_eq_true]
theorem okFrom_gt {l : List S30} : ∀ {p : Int}, okFrom p l = true → ∀ x ∈ l, p < x.f0 := by
  induction l with
  | nil => intro p _ x hx; cases hx
  | cons y l ih =>
    intro p h x hx
    obtain ⟨_, h2, h3⟩ := okFrom_cons.1 h
    rcases List.mem_cons.1 hx with rfl | hx
    · exact h2
    · have := ih h3 x hx; omega
theorem okFrom_iB {l : List S30} : ∀ {p : Int}, okFrom p l = true → ∀ x ∈ l, iB x = true := by
  induction l with
  | nil => intro p _ x hx; cases hx
  | cons y l ih =>
    intro p h x hx
    obtain ⟨h1, h2, h3⟩ := okFrom_cons.1 h
    rcases List.mem_cons.1 hx with rfl | hx
    · exact h1
    · exact ih h3 x hx
theorem okFrom_insI {l : List S30} {m : S30} (hm : iB m = true) : ∀ {p : Int}, p < m.f0 → okFrom p l = true → okFrom p (insI l m) = true := by
  induction l with
  | nil => intro p hp _; exact okFrom_cons.2 ⟨hm, hp, rfl⟩
  | cons x l ih =>
    intro p hp h
    obtain ⟨h1, h2, h3⟩ := okFrom_cons.1 h
    by_cases hc : x.f0 < m.f0
    · rw [insI_lt hc]; exact okFrom_cons.2 ⟨h1, h2, ih hc h3⟩
    · by_cases he : x.f0 = m.f0
      · rw [insI_eq he]; exact h
      · rw [insI_gt (by omega)]
        exact okFrom_cons.2 ⟨hm, hp, okFrom_cons.2 ⟨h1, by omega, h3⟩⟩
theorem insI_app (p : List S30) (l : List S30) (m : S30) (h : ∀ x ∈ p, x.f0 < m.f0) : insI (p ++ l) m = p ++ insI l m := by
  induction p with
  | nil => rfl
  | cons x p ih => rw [List.cons_append, insI_lt (h x (by simp)), ih (fun y hy => h y (by simp [hy])), List.cons_append]
/-- The reference's way: those below, the item, those above. -/
theorem insI_filter {l : List S30} {m : S30} : ∀ {p : Int}, okFrom p l = true → insI l m = if l.any (fun x => decide (x.f0 = m.f0)) = true then l else l.filter (fun x => decide (x.f0 < m.f0)) ++ [m] ++ l.filter (fun x => decide (x.f0 > m.f0)) := by
  induction l with
  | nil => intro p _; rfl
  | cons x l ih =>
    intro p h
    obtain ⟨h1, h2, h3⟩ := okFrom_cons.1 h
    by_cases hc : x.f0 < m.f0
    · rw [insI_lt hc, ih h3]
      simp only [List.any_cons, decide_eq_false (show ¬ x.f0 = m.f0 by omega), Bool.false_or, List.filter_cons, decide_eq_true hc, if_true, decide_eq_false (show ¬ x.f0 > m.f0 by omega), Bool.false_eq_true, if_false]
      split <;> simp
    · by_cases he : x.f0 = m.f0
      · rw [insI_eq he, if_pos (by simp [he])]
      · have hg := okFrom_gt h3
        have ha : l.any (fun x => decide (x.f0 = m.f0)) = false := by
          rw [List.any_eq_false]; intro y hy; have := hg y hy; simp; omega
        rw [insI_gt (by omega), if_neg (by simp [ha, he])]
        have f1 : l.filter (fun x => decide (x.f0 < m.f0)) = [] := List.filter_eq_nil_iff.2 (fun y hy => by have := hg y hy; simp; omega)
        have f2 : l.filter (fun x => decide (x.f0 > m.f0)) = l := List.filter_eq_self.2 (fun y hy => by have := hg y hy; simp; omega)
        simp only [List.filter_cons, decide_eq_false hc, Bool.false_eq_true, if_false, f1, f2, decide_eq_true (show x.f0 > m.f0 by omega), if_true]
        rfl
def putI (l : List S30) (m : S30) : List S30 := if okFrom 0 l = true ∧ iB m = true then insI l m else l
theorem putI_length (l : List S30) (m : S30) : (putI l m).length ≤ l.length + 1 := by
  unfold putI; split
  · exact insI_length l m
  · omega

theorem implItemsOk_l0 (l : List S30) (hl : l.length ≤ 35184372088832) (d : Nat) : ∀ (i : Nat) (p : Int), l.length - i = d → i ≤ l.length → (i = 0 → p = 0) → (∀ h : 0 < i, ∀ h2 : i - 1 < l.length, p = (l[i - 1]'h2).f0) → Gets (fun k => impl_ItemsOk.l0 k l l (l.length : Int) (i : Int)) (· = okFrom p (l.drop i)) := by
  induction d with
  | zero =>
    intro i p hd hi _ _
    refine Gets.step (fun k => impl_ItemsOk.l0.eq_2 ..) (Gets.neg (by omega) (Gets.ret ?_))
    rw [List.drop_of_length_le (by omega)]
    rfl
  | succ d ih =>
    intro i p hd hi hp0 hp1
    refine Gets.step (fun k => impl_ItemsOk.l0.eq_2 ..) (Gets.pos (by omega) (Gets.pos (by omega) (Gets.pos (by omega) ?_)))
    rw [rdI_get (by omega), implItemOk, drop_at l i (by omega)]
    simp only [Int.toNat_natCast, Option.bind_some]
    have hi1 := ih (i + 1) l[i].f0 (by omega) (by omega) (by omega) (fun _ h2 => by simp)
    rw [show (((i + 1 : Nat)) : Int) = (i : Int) + 1 by omega] at hi1
    rw [wrapId (x := (i : Int) + 1) (by omega) (by omega)]
    have hun : okFrom p (l[i] :: l.drop (i + 1)) = (iB l[i] && (decide (p < l[i].f0) && okFrom l[i].f0 (l.drop (i + 1)))) := rfl
    rw [hun]
    refine Gets.ite (fun h => ?_) (fun h => Gets.ret ?_)
    · have hb : iB l[i] = true := h
      rw [hb, Bool.true_and]
      refine Gets.ite (fun h1 => ?_) (fun h1 => ?_)
      · rw [wrapId (x := (i : Int) - 1) (by omega) (by omega)]
        refine Gets.pos (by omega) (Gets.pos (by omega) ?_)
        rw [rdI_get (by omega)]
        have e := hp1 (by omega) (by omega)
        have e2 : (l[((i : Int) - 1).toNat]'(by omega)) = l[i - 1]'(by omega) := by congr 1; omega
        rw [e2, ← e]
        refine Gets.ite (fun h2 => Gets.ret ?_) (fun h2 => hi1.mono (fun r hr => ?_))
        · rw [decide_eq_false (by omega)]; rfl
        · rw [hr, decide_eq_true (by omega)]; rfl
      · refine hi1.mono (fun r hr => ?_)
        have := iB_bd hb
        have hp := hp0 (by omega)
        rw [hr, decide_eq_true (show p < l[i].f0 by omega)]; rfl
    · have hb : iB l[i] = false := Bool.eq_false_iff.2 h
      rw [hb]; rfl
theorem implItemsOk (l : List S30) (hl : l.length ≤ 35184372088832) : Gets (fun k => impl_ItemsOk.f k l) (· = okFrom 0 l) := by
  unfold impl_ItemsOk.f
  exact implItemsOk_l0 l hl l.length 0 0 (by omega) (by omega) (fun _ => rfl) (fun h => by omega)

theorem insF (l : List S30) (m : S30) (i : Nat) (hi : i ≤ l.length) (hl : l.length ≤ 9000000) : impl_Item_53.f l (i : Int) [m] = some (l.take i ++ [m] ++ l.drop i) := by
  unfold impl_Item_53.f
  rw [if_pos ⟨by omega, by omega, rfl, by omega⟩]
  simp
theorem implPut_l0 (l : List S30) (m : S30) (hl : l.length ≤ 9000000) (d : Nat) : ∀ i : Nat, l.length - i = d → i ≤ l.length → (∀ x ∈ l.take i, x.f0 < m.f0) → Gets (fun k => impl_putItem.l0 k l (i : Int) m.f0 m.f1 m.f2 m.f3) (· = insI l m) := by
  induction d with
  | zero =>
    intro i hd hi ha
    have hd0 : i = l.length := by omega
    refine Gets.step (fun k => impl_putItem.l0.eq_2 ..) (Gets.neg (by omega) ?_)
    rw [insF l ⟨m.f0, m.f1, m.f2, m.f3⟩ i hi hl]
    refine Gets.ret ?_
    subst hd0
    rw [List.take_of_length_le (Nat.le_refl _)] at ha ⊢
    rw [List.drop_of_length_le (Nat.le_refl _), List.append_nil]
    have := insI_app l [] m ha
    rw [List.append_nil] at this
    rw [this]; rfl
  | succ d ih =>
    intro i hd hi ha
    have hsplit := insI_app (l.take i) (l.drop i) m ha
    rw [List.take_append_drop, drop_at l i (by omega)] at hsplit
    refine Gets.step (fun k => impl_putItem.l0.eq_2 ..) (Gets.pos (by omega) (Gets.pos (by omega) ?_))
    rw [rdI_get (by omega), wrapId (by omega) (by omega)]
    simp only [Int.toNat_natCast]
    rw [show ((i : Int) + 1) = ((i + 1 : Nat) : Int) by omega]
    refine Gets.ite (fun h => ?_) (fun h => Gets.ite (fun h2 => Gets.ret ?_) (fun h2 => ?_))
    · refine ih (i + 1) (by omega) (by omega) (fun x hx => ?_)
      rw [List.take_succ_eq_append_getElem (by omega)] at hx
      rcases List.mem_append.1 hx with hx | hx
      · exact ha x hx
      · simp at hx; rw [hx]; exact h
    · rw [hsplit, insI_eq h2, ← drop_at l i (by omega), List.take_append_drop]
    · rw [insF l ⟨m.f0, m.f1, m.f2, m.f3⟩ i hi hl]
      refine Gets.ret ?_
      rw [hsplit, insI_gt (by omega), ← drop_at l i (by omega)]
      simp
theorem implPut1 (l : List S30) (m : S30) (hl : l.length ≤ 9000000) : Gets (fun k => impl_putItem.f k l m.f0 m.f1 m.f2 m.f3) (· = insI l m) := by
  unfold impl_putItem.f
  exact implPut_l0 l m hl l.length 0 (by omega) (by omega) (by simp)
theorem implPut (l : List S30) (m : S30) (hl : l.length ≤ 9000000) : Gets (fun k => impl_PutItem.f k l m.f0 m.f1 m.f2 m.f3) (· = putI l m) := by
  unfold impl_PutItem.f impl_Item_38.f
  simp only [Option.bind_some, List.length_nil, List.nil_append]
  rw [if_pos (by omega)]
  simp only [Option.bind_some]
  rw [implItemOk]
  simp only [Option.bind_some]
  refine Gets.ite (fun h => ?_) (fun h => Gets.ret ?_)
  · refine Gets.bindE (implItemsOk l (by omega)).ev (Gets.ite (fun h2 => ?_) (fun h2 => Gets.ret ?_))
    · refine Gets.bindE (implPut1 l m hl).ev (Gets.ret ?_)
      unfold putI iB; rw [if_pos ⟨h2, h⟩]
    · unfold putI iB; rw [if_neg (fun h3 => h2 h3.1)]
  · unfold putI iB; rw [if_neg (fun h3 => h h3.2)]

theorem specItemsOk_l0 (l : List S30) (hl : l.length ≤ 35184372088832) (d : Nat) : ∀ (i : Nat) (p : Int), l.length - i = d → i ≤ l.length → (i = 0 → p = 0) → (∀ h : 0 < i, ∀ h2 : i - 1 < l.length, p = (l[i - 1]'h2).f0) → Gets (fun k => spec_ItemsOk.l0 k l (i : Int)) (· = okFrom p (l.drop i)) := by
  induction d with
  | zero =>
    intro i p hd hi _ _
    refine Gets.step (fun k => spec_ItemsOk.l0.eq_2 ..) (Gets.neg (by omega) (Gets.ret ?_))
    rw [List.drop_of_length_le (by omega)]
    rfl
  | succ d ih =>
    intro i p hd hi hp0 hp1
    refine Gets.step (fun k => spec_ItemsOk.l0.eq_2 ..) (Gets.pos (by omega) (Gets.pos (by omega) ?_))
    rw [rdI_get (by omega), specItemOk, drop_at l i (by omega)]
    simp only [Int.toNat_natCast, Option.bind_some]
    have hi1 := ih (i + 1) l[i].f0 (by omega) (by omega) (by omega) (fun _ h2 => by simp)
    rw [show (((i + 1 : Nat)) : Int) = (i : Int) + 1 by omega] at hi1
    rw [wrapId (x := (i : Int) + 1) (by omega) (by omega)]
    have hun : okFrom p (l[i] :: l.drop (i + 1)) = (iB l[i] && (decide (p < l[i].f0) && okFrom l[i].f0 (l.drop (i + 1)))) := rfl
    rw [hun]
    refine Gets.ite (fun h => ?_) (fun h => Gets.ret ?_)
    · have hb : iB l[i] = true := h
      rw [hb, Bool.true_and]
      refine Gets.ite (fun h1 => ?_) (fun h1 => ?_)
      · rw [wrapId (x := (i : Int) - 1) (by omega) (by omega)]
        refine Gets.pos (by omega) (Gets.pos (by omega) ?_)
        rw [rdI_get (by omega)]
        have e := hp1 (by omega) (by omega)
        have e2 : (l[((i : Int) - 1).toNat]'(by omega)) = l[i - 1]'(by omega) := by congr 1; omega
        rw [e2, ← e]
        refine Gets.ite (fun h2 => Gets.ret ?_) (fun h2 => hi1.mono (fun r hr => ?_))
        · rw [decide_eq_false (by omega)]; rfl
        · rw [hr, decide_eq_true (by omega)]; rfl
      · refine hi1.mono (fun r hr => ?_)
        have := iB_bd hb
        have hp := hp0 (by omega)
        rw [hr, decide_eq_true (show p < l[i].f0 by omega)]; rfl
    · have hb : iB l[i] = false := Bool.eq_false_iff.2 h
      rw [hb]; rfl
theorem specItemsOk (l : List S30) (hl : l.length ≤ 35184372088832) : Gets (fun k => spec_ItemsOk.f k l) (· = okFrom 0 l) := by
  unfold spec_ItemsOk.f
  exact specItemsOk_l0 l hl l.length 0 0 (by omega) (by omega) (fun _ => rfl) (fun h => by omega)

theorem specPut_l1 (l : List S30) (m : S30) (hl : l.length ≤ 9000000) (d : Nat) : ∀ (i : Nat) (acc : List S30), l.length - i = d → i ≤ l.length → acc.length + d ≤ 90000000 → Gets (fun k => spec_PutItem.l1 k l acc (i : Int) m.f0 m.f1 m.f2 m.f3) (· = acc ++ (l.drop i).filter (fun x => decide (x.f0 > m.f0))) := by
  induction d with
  | zero =>
    intro i acc hd hi ha
    refine Gets.step (fun k => spec_PutItem.l1.eq_2 ..) (Gets.neg (by omega) (Gets.ret ?_))
    rw [List.drop_of_length_le (by omega)]; simp
  | succ d ih =>
    intro i acc hd hi ha
    refine Gets.step (fun k => spec_PutItem.l1.eq_2 ..) (Gets.pos (by omega) (Gets.pos (by omega) ?_))
    rw [rdI_get (by omega), wrapId (by omega) (by omega), drop_at l i (by omega)]
    simp only [Int.toNat_natCast]
    rw [show ((i : Int) + 1) = ((i + 1 : Nat) : Int) by omega]
    refine Gets.ite (fun h => Gets.pos (by omega) ?_) (fun h => ?_)
    · refine (ih (i + 1) (acc ++ [l[i]]) (by omega) (by omega) (by simp; omega)).mono (fun r hr => ?_)
      rw [hr, List.filter_cons, if_pos (decide_eq_true h)]; simp
    · refine (ih (i + 1) acc (by omega) (by omega) (by omega)).mono (fun r hr => ?_)
      rw [hr, List.filter_cons, if_neg (by simpa using h)]
theorem specPut_l0 (l : List S30) (m : S30) (hl : l.length ≤ 9000000) (d : Nat) : ∀ (i : Nat) (acc : List S30), l.length - i = d → i ≤ l.length → acc.length ≤ i → Gets (fun k => spec_PutItem.l0 k l l acc (i : Int) m.f0 m.f1 m.f2 m.f3) (· = if (l.drop i).any (fun x => decide (x.f0 = m.f0)) = true then l else acc ++ (l.drop i).filter (fun x => decide (x.f0 < m.f0)) ++ [m] ++ l.filter (fun x => decide (x.f0 > m.f0))) := by
  induction d with
  | zero =>
    intro i acc hd hi ha
    refine Gets.step (fun k => spec_PutItem.l0.eq_2 ..) (Gets.neg (by omega) (Gets.pos (by omega) ?_))
    refine (specPut_l1 l m hl l.length 0 (acc ++ [m]) (by omega) (by omega) (by simp; omega)).mono (fun r hr => ?_)
    rw [hr, show l.drop i = [] from List.drop_of_length_le (by omega)]; simp
  | succ d ih =>
    intro i acc hd hi ha
    refine Gets.step (fun k => spec_PutItem.l0.eq_2 ..) (Gets.pos (by omega) (Gets.pos (by omega) ?_))
    rw [rdI_get (by omega), wrapId (by omega) (by omega), drop_at l i (by omega)]
    simp only [Int.toNat_natCast]
    rw [show ((i : Int) + 1) = ((i + 1 : Nat) : Int) by omega]
    refine Gets.ite (fun h => Gets.ret ?_) (fun h => Gets.ite (fun h2 => Gets.pos (by omega) ?_) (fun h2 => ?_))
    · rw [if_pos (by rw [List.any_cons, decide_eq_true h]; rfl)]
    · refine (ih (i + 1) (acc ++ [l[i]]) (by omega) (by omega) (by simp; omega)).mono (fun r hr => ?_)
      rw [hr]
      simp only [List.any_cons, decide_eq_false h, Bool.false_or, List.filter_cons, decide_eq_true h2, if_true]
      simp
    · refine (ih (i + 1) acc (by omega) (by omega) (by omega)).mono (fun r hr => ?_)
      rw [hr]
      simp only [List.any_cons, decide_eq_false h, Bool.false_or, List.filter_cons, decide_eq_false h2, Bool.false_eq_true, if_false]
theorem specPut (l : List S30) (m : S30) (hl : l.length ≤ 9000000) : Gets (fun k => spec_PutItem.f k l m.f0 m.f1 m.f2 m.f3) (· = putI l m) := by
  unfold spec_PutItem.f
  simp only [Option.bind_some, List.length_nil, List.nil_append]
  refine Gets.pos (by omega) ?_
  refine Gets.bindE (specItemsOk l (by omega)).ev (Gets.ite (fun h => ?_) (fun h => ?_))
  · rw [specItemOk]
    simp only [Option.bind_some]
    refine Gets.step (fun k => spec_PutItem.j0.eq_2 ..) (Gets.ite (fun h2 => Gets.ret ?_) (fun h2 => ?_))
    · unfold putI iB; rw [if_neg (fun h3 => by rw [h3.2] at h2; cases h2)]
    · refine (specPut_l0 l m hl l.length 0 [] (by omega) (by omega) (by simp)).mono (fun r hr => ?_)
      rw [hr, List.drop_zero, List.nil_append, ← insI_filter h]
      unfold putI iB; rw [if_pos ⟨h, by simpa using h2⟩]
  · refine Gets.step (fun k => spec_PutItem.j0.eq_2 ..) (Gets.pos rfl (Gets.ret ?_))
    unfold putI; rw [if_neg (fun h3 => h h3.1)]

theorem FnExactPutItem : Stat.FnExactPutItem := by
  intro l a b c s hl ha hb hc hs
  refine Gets.rounds ?_
  unfold laws_FnExactPutItem.f
  refine Gets.bind (szItemS l _ (by omega) hl.1 (fun m hm => (hl.2 m hm).2.2.2)) (fun r hr => ?_)
  refine Gets.ite (fun _ => Gets.ret rfl) (fun h => ?_)
  obtain ⟨hr0, hr1, hz⟩ := hr.resolve_left h
  have hn := hz.1
  have hn2 : (l.map cvI).length = l.length := by simp
  have hw := putI_length (l.map cvI) ⟨a, b, c, s⟩
  rw [szItem _ _ _ _ _ hs (by omega)]
  simp only [Option.bind_some, laws_toItem.f]
  refine Gets.ite (fun _ => Gets.ret rfl) (fun h2 => ?_)
  have iP := (implPut (l.map cvI) ⟨a, b, c, s⟩ (by omega)).ev
  refine Gets.bindE (toItemS l (by omega)).ev (Gets.bindE (specPut (l.map cvI) ⟨a, b, c, s⟩ (by omega)).ev (Gets.bindE (toItemS l (by omega)).ev (Gets.bindE iP ?_)))
  refine Gets.bind (eqItemS_true _ (by omega)) (fun e he => Gets.pos he (Gets.bindE (toItemS l (by omega)).ev ?_))
  refine Gets.bind (eqItemS_true _ (by omega)) (fun e he => Gets.pos he (Gets.bindE (markItemS _ 1 (by omega) (by omega)).ev ?_))
  refine Gets.neg (by simp only; omega) (Gets.bind (eqItemS_true _ (by omega)) (fun e he => ?_))
  refine Gets.step (fun k => laws_FnExactPutItem.j0.eq_2 ..) (Gets.neg (by rw [he]; simp) (Gets.bindE (markItemS _ 1 (by omega) (by omega)).ev ?_))
  refine Gets.bindE (heldItemS 1 _ (by omega) (by omega)).ev ?_
  simp only [laws_toItem.f, Option.bind_some]
  refine Gets.neg (by omega) (Gets.pos trivial (Gets.bindE (toItemS l (by omega)).ev (Gets.bindE iP ?_)))
  refine Gets.bind (eqItemS_true _ (by omega)) (fun e he => Gets.pos he (Gets.bindE (heldItemS 1 _ (by omega) (by omega)).ev ?_))
  exact Gets.neg (by omega) (Gets.pos rfl (Gets.ret rfl))

end Go.Proofs.Ytfkhpenpdeknmaa.Pure
