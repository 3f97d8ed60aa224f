/- the union of two stores has what either has, and only that -/
import Derived.Test.YtfkhpenpdeknmaaStatFnUnions
import Derived.Lib.Strings
set_option linter.unusedVariables false
set_option linter.unusedSimpArgs false
namespace Go.Proofs.Ytfkhpenpdeknmaa.Pure
open Go.RowKit Go.Proofs.Ytfkhpenpdeknmaa.PFnUnions Go.Proofs.YtfkhpenpdeknmaaW.PrintWords Go.Proofs.YtfkhpenpdeknmaaW.PrintLast

/-! ### plain words: from some number of rounds on -/
def Gets {α : Type} (f : Nat → Option α) (Q : α → Prop) : Prop := ∃ r, Ev f r ∧ Q r
theorem Gets.ret {α : Type} {Q : α → Prop} {r : α} (h : Q r) : Gets (fun _ => some r) Q := ⟨r, Ev.now r, h⟩
theorem Gets.none {α : Type} {Q : α → Prop} (h : False) : Gets (fun _ => (Option.none : Option α)) Q := h.elim
theorem Gets.step {α : Type} {g f : Nat → Option α} {Q : α → Prop} (h : ∀ k, g (k + 1) = f k) (k : Gets f Q) : Gets g Q := by
  obtain ⟨r, hr, hq⟩ := k
  exact ⟨r, Ev.step h hr, hq⟩
theorem Ev.ite {α : Type} {c : Prop} [Decidable c] {f g : Nat → Option α} {r : α} (h : c → Ev f r) (k : ¬ c → Ev g r) : Ev (fun n => if c then f n else g n) r := by
  by_cases hc : c
  · simp only [hc, if_true]; exact h hc
  · simp only [hc, if_false]; exact k hc
theorem Gets.ite {α : Type} {c : Prop} [Decidable c] {f g : Nat → Option α} {Q : α → Prop} (h : c → Gets f Q) (k : ¬ c → Gets g Q) : Gets (fun n => if c then f n else g n) Q := by
  by_cases hc : c
  · simp only [hc, if_true]; exact h hc
  · simp only [hc, if_false]; exact k hc
theorem Gets.pos {α : Type} {c : Prop} [Decidable c] {f g : Nat → Option α} {Q : α → Prop} (hc : c) (h : Gets f Q) : Gets (fun n => if c then f n else g n) Q := by
  simp only [hc, if_true]; exact h
theorem Gets.neg {α : Type} {c : Prop} [Decidable c] {f g : Nat → Option α} {Q : α → Prop} (hc : ¬ c) (h : Gets g Q) : Gets (fun n => if c then f n else g n) Q := by
  simp only [hc, if_false]; exact h
theorem Gets.bind {α β : Type} {g : Nat → Option α} {f : Nat → α → Option β} {P : α → Prop} {Q : β → Prop} (h : Gets g P) (k : ∀ a, P a → Gets (fun n => f n a) Q) : Gets (fun n => (g n).bind (f n)) Q := by
  obtain ⟨a, ha, hp⟩ := h
  obtain ⟨r, hr, hq⟩ := k a hp
  exact ⟨r, Ev.bind ha hr, hq⟩
theorem Gets.bindE {α β : Type} {g : Nat → Option α} {f : Nat → α → Option β} {a : α} {Q : β → Prop} (h : Ev g a) (k : Gets (fun n => f n a) Q) : Gets (fun n => (g n).bind (f n)) Q := by
  obtain ⟨r, hr, hq⟩ := k
  exact ⟨r, Ev.bind h hr, hq⟩
theorem Gets.mono {α : Type} {f : Nat → Option α} {P Q : α → Prop} (h : Gets f P) (k : ∀ a, P a → Q a) : Gets f Q := by
  obtain ⟨r, hr, hp⟩ := h
  exact ⟨r, hr, k r hp⟩
theorem Gets.rounds {α : Type} {f : Nat → Option α} {r : α} (h : Gets f (· = r)) : ∃ k, f k = some r := by
  obtain ⟨a, ha, rfl⟩ := h
  exact ha.rounds
theorem Gets.ev {α : Type} {f : Nat → Option α} {r : α} (h : Gets f (· = r)) : Ev f r := by
  obtain ⟨a, ha, rfl⟩ := h
  exact ha
theorem Ev.gets {α : Type} {f : Nat → Option α} {r : α} {Q : α → Prop} (h : Ev f r) (hq : Q r) : Gets f Q := ⟨r, h, hq⟩
theorem Gets.same {α : Type} {o : Option α} {Q : α → Prop} {r : α} (h : o = some r) (hq : Q r) : Gets (fun _ => o) Q := by
  subst h; exact Gets.ret hq
theorem wrapId {x : Int} (h0 : -9223372036854775808 ≤ x) (h1 : x ≤ 9223372036854775807) : wrap64 x = x := by
  unfold wrap64; omega
theorem i64_bd {n : Int} (h : (Lit.int .i64 n).wf = true) : -9223372036854775808 ≤ n ∧ n ≤ 9223372036854775807 := by
  have hm : IntKind.i64.min = -9223372036854775808 := rfl
  simp [Lit.wf, hm] at h
  exact h
theorem boolEq {a b : Bool} {P Q : Prop} (ha : a = true ↔ P) (hb : b = true ↔ Q) (h : P ↔ Q) : a = b := by
  rw [Bool.eq_iff_iff, ha, hb, h]
theorem tmod_nn {a b : Int} (h : 0 ≤ a) : Int.tmod a b = a % b := Int.tmod_eq_emod_of_nonneg h
theorem tdiv_nn {a b : Int} (h : 0 ≤ a) : Int.tdiv a b = a / b := Int.tdiv_eq_ediv_of_nonneg h

theorem asc_ext : ∀ A B : List Int, A.Pairwise (· < ·) → B.Pairwise (· < ·) → (∀ x, x ∈ A ↔ x ∈ B) → A = B := by
  intro A
  induction A with
  | nil =>
    intro B _ _ h
    cases B with
    | nil => rfl
    | cons b B => exact absurd ((h b).2 (by simp)) (by simp)
  | cons a A ih =>
    intro B hA hB h
    cases B with
    | nil => exact absurd ((h a).1 (by simp)) (by simp)
    | cons b B =>
      obtain ⟨a1, a2⟩ := List.pairwise_cons.1 hA
      obtain ⟨b1, b2⟩ := List.pairwise_cons.1 hB
      have e : a = b := by
        rcases List.mem_cons.1 ((h a).1 (by simp)) with e | e
        · exact e
        · rcases List.mem_cons.1 ((h b).2 (by simp)) with e2 | e2
          · exact e2.symm
          · have := b1 a e; have := a1 b e2; omega
      subst e
      rw [ih B a2 b2 (fun x => ?_)]
      constructor
      · intro hx
        rcases List.mem_cons.1 ((h x).1 (by simp [hx])) with e | e
        · have := a1 x hx; omega
        · exact e
      · intro hx
        rcases List.mem_cons.1 ((h x).2 (by simp [hx])) with e | e
        · have := b1 x hx; omega
        · exact e

theorem inR (x a b : Int) : impl_inRange.f x a b = some (decide (a ≤ x ∧ x ≤ b)) := by
  unfold impl_inRange.f
  by_cases h : x ≥ a
  · rw [if_pos h]; simp [show a ≤ x from h]
  · rw [if_neg h]; simp [show ¬ a ≤ x from h]

def itemB (a b c : Int) (s : ByteArray) : Bool := decide ((1 ≤ a ∧ a ≤ 60) ∧ (1 ≤ b ∧ b ≤ 5) ∧ (1 ≤ c ∧ c ≤ 2) ∧ (s.size : Int) ≤ 60)
theorem implItemOk (a b c : Int) (s : ByteArray) : impl_ItemOk.f a b c s = some (itemB a b c s) := by
  unfold impl_ItemOk.f impl_isDaemon.f impl_isLevel.f itemB
  simp only [inR, Option.bind_some, decide_eq_true_eq]
  by_cases h1 : 1 ≤ a ∧ a ≤ 60
  · rw [if_pos h1]
    by_cases h2 : 1 ≤ b ∧ b ≤ 5
    · rw [if_pos h2]
      by_cases h3 : c = 1
      · rw [if_pos h3]; simp only [Option.bind_some, if_true]; congr 1; rw [decide_eq_decide]; omega
      · rw [if_neg h3]; simp only [Option.bind_some, beq_iff_eq]
        by_cases h4 : c = 2
        · rw [if_pos h4]; congr 1; rw [decide_eq_decide]; omega
        · rw [if_neg h4]; congr 1; symm; rw [decide_eq_false_iff_not]; omega
    · rw [if_neg h2]; congr 1; symm; rw [decide_eq_false_iff_not]; exact fun h => h2 h.2.1
  · rw [if_neg h1]; congr 1; symm; rw [decide_eq_false_iff_not]; exact fun h => h1 h.1
/-! ### rows of numbers -/
theorem rd_get {l : List Int} {i : Int} (h : i.toNat < l.length) : rd l i = l[i.toNat] := by
  unfold rd; rw [List.getD_eq_getElem?_getD, List.getElem?_eq_getElem h]; rfl
theorem fill_step {α : Type} (l : List α) (d : α) (i : Nat) (h : i < l.length) : (l.take i ++ List.replicate (l.length - i) d).set i l[i] = l.take (i + 1) ++ List.replicate (l.length - (i + 1)) d := by
  have e : List.replicate (l.length - i) d = d :: List.replicate (l.length - (i + 1)) d := by
    rw [show l.length - i = (l.length - (i + 1)) + 1 by omega]; rfl
  rw [e, List.set_append_right _ _ (by rw [List.length_take]; omega), List.length_take, show i - min i l.length = 0 by omega, List.set_cons_zero, List.take_succ_eq_append_getElem h, List.append_assoc]
  rfl
theorem drop_at {α : Type} (l : List α) (i : Nat) (h : i < l.length) : l.drop i = l[i] :: l.drop (i + 1) := List.drop_eq_getElem_cons h
def marks (k : Int) (n : Nat) : List Int := (List.range n).map (fun (i : Nat) => k + (i : Int))
theorem marks_length (k : Int) (n : Nat) : (marks k n).length = n := by simp [marks]
theorem marks_get (k : Int) (n i : Nat) (h : i < n) : (marks k n)[i]'(by rw [marks_length]; exact h) = k + i := by simp [marks]

theorem rdI_get {l : List S30} {i : Int} (h : i.toNat < l.length) : rd_T30 l i = l[i.toNat] := by
  unfold rd_T30; rw [List.getD_eq_getElem?_getD, List.getElem?_eq_getElem h]; rfl
def iB (m : S30) : Bool := itemB m.f0 m.f1 m.f2 m.f3
/-- Right items, ascending, above p. -/
def okFrom : Int → List S30 → Bool
  | _, [] => true
  | p, m :: l => iB m && (decide (p < m.f0) && okFrom m.f0 l)
theorem iB_bd {m : S30} (h : iB m = true) : 1 ≤ m.f0 ∧ m.f0 ≤ 60 := by
  unfold iB itemB at h
  have := of_decide_eq_true h
  exact this.1

/-- An item put into ascending items, unless one has its number. -/
def insI : List S30 → S30 → List S30
  | [], m => [m]
  | x :: l, m => if x.f0 < m.f0 then x :: insI l m else if x.f0 = m.f0 then x :: l else m :: x :: l
theorem insI_lt {x m : S30} {l : List S30} (h : x.f0 < m.f0) : insI (x :: l) m = x :: insI l m := by rw [insI, if_pos h]
theorem insI_eq {x m : S30} {l : List S30} (h : x.f0 = m.f0) : insI (x :: l) m = x :: l := by rw [insI, if_neg (by omega), if_pos h]
theorem insI_gt {x m : S30} {l : List S30} (h : m.f0 < x.f0) : insI (x :: l) m = m :: x :: l := by rw [insI, if_neg (by omega), if_neg (by omega)]
theorem insI_length (l : List S30) (m : S30) : (insI l m).length ≤ l.length + 1 := by
  induction l with
  | nil => simp [insI]
  | cons x l ih =>
    unfold insI
    split
    · simp; omega
    · split <;> simp
theorem okFrom_cons {p : Int} {x : S30} {l : List S30} : okFrom p (x :: l) = true ↔ iB x = true ∧ p < x.f0 ∧ okFrom x.f0 l = true := by
  show (iB x && (decide (p < x.f0) && okFrom x.f0 l)) = true ↔ _
  simp [Bool.and_eq_true]
theorem okFrom_gt {l : List S30} : ∀ {p : Int}, okFrom p l = true → ∀ x ∈ l, p < x.f0 := by
  induction l with
  | nil => intro p _ x hx; cases hx
  | cons y l ih =>
    intro p h x hx
    obtain ⟨_, h2, h3⟩ := okFrom_cons.1 h
    rcases List.mem_cons.1 hx with rfl | hx
    · exact h2
    · have := ih h3 x hx; omega
theorem okFrom_iB {l : List S30} : ∀ {p : Int}, okFrom p l = true → ∀ x ∈ l, iB x = true := by
  induction l with
  | nil => intro p _ x hx; cases hx
  | cons y l ih =>
    intro p h x hx
    obtain ⟨h1, h2, h3⟩ := okFrom_cons.1 h
    rcases List.mem_cons.1 hx with rfl | hx
    · exact h1
    · exact ih h3 x hx
theorem okFrom_insI {l : List S30} {m : S30} (hm : iB m = true) : ∀ {p : Int}, p < m.f0 → okFrom p l = true → okFrom p (insI l m) = true := by
  induction l with
  | nil => intro p hp _; exact okFrom_cons.2 ⟨hm, hp, rfl⟩
  | cons x l ih =>
    intro p hp h
    obtain ⟨h1, h2, h3⟩ := okFrom_cons.1 h
    by_cases hc : x.f0 < m.f0
    · rw [insI_lt hc]; exact okFrom_cons.2 ⟨h1, h2, ih hc h3⟩
    · by_cases he : x.f0 = m.f0
      · rw [insI_eq he]; exact h
      · rw [insI_gt (by omega)]
        exact okFrom_cons.2 ⟨hm, hp, okFrom_cons.2 ⟨h1, by omega, h3⟩⟩
theorem insI_app (p : List S30) (l : List S30) (m : S30) (h : ∀ x ∈ p, x.f0 < m.f0) : insI (p ++ l) m = p ++ insI l m := by
  induction p with
  | nil => rfl
  | cons x p ih => rw [List.cons_append, insI_lt (h x (by simp)), ih (fun y hy => h y (by simp [hy])), List.cons_append]
/-- The reference's way: those below, the item, those above. -/
theorem insI_filter {l : List S30} {m : S30} : ∀ {p : Int}, okFrom p l = true → insI l m = if l.any (fun x => decide (x.f0 = m.f0)) = true then l else l.filter (fun x => decide (x.f0 < m.f0)) ++ [m] ++ l.filter (fun x => decide (x.f0 > m.f0)) := by
  induction l with
  | nil => intro p _; rfl
  | cons x l ih =>
    intro p h
    obtain ⟨h1, h2, h3⟩ := okFrom_cons.1 h
    by_cases hc : x.f0 < m.f0
    · rw [insI_lt hc, ih h3]
      simp only [List.any_cons, decide_eq_false (show ¬ x.f0 = m.f0 by omega), Bool.false_or, List.filter_cons, decide_eq_true hc, if_true, decide_eq_false (show ¬ x.f0 > m.f0 by omega), Bool.false_eq_true, if_false]
      split <;> simp
    · by_cases he : x.f0 = m.f0
      · rw [insI_eq he, if_pos (by simp [he])]
      · have hg := okFrom_gt h3
        have ha : l.any (fun x => decide (x.f0 = m.f0)) = false := by
          rw [List.any_eq_false]; intro y hy; have := hg y hy; simp; omega
        rw [insI_gt (by omega), if_neg (by simp [ha, he])]
        have f1 : l.filter (fun x => decide (x.f0 < m.f0)) = [] := List.filter_eq_nil_iff.2 (fun y hy => by have := hg y hy; simp; omega)
        have f2 : l.filter (fun x => decide (x.f0 > m.f0)) = l := List.filter_eq_self.2 (fun y hy => by have := hg y hy; simp; omega)
        simp only [List.filter_cons, decide_eq_false hc, Bool.false_eq_true, if_false, f1, f2, decide_eq_true (show x.f0 > m.f0 by omega), if_true]
        rfl
def putI (l : List S30) (m : S30) : List S30 := if okFrom 0 l = true ∧ iB m = true then insI l m else l
theorem putI_length (l : List S30) (m : S30) : (putI l m).length ≤ l.length + 1 := by
  unfold putI; split
  · exact insI_length l m
  · omega

theorem implItemsOk_l0 (l : List S30) (hl : l.length ≤ 35184372088832) (d : Nat) : ∀ (i : Nat) (p : Int), l.length - i = d → i ≤ l.length → (i = 0 → p = 0) → (∀ h : 0 < i, ∀ h2 : i - 1 < l.length, p = (l[i - 1]'h2).f0) → Gets (fun k => impl_ItemsOk.l0 k l l (l.length : Int) (i : Int)) (· = okFrom p (l.drop i)) := by
  induction d with
  | zero =>
    intro i p hd hi _ _
    refine Gets.step (fun k => impl_ItemsOk.l0.eq_2 ..) (Gets.neg (by omega) (Gets.ret ?_))
    rw [List.drop_of_length_le (by omega)]
    rfl
  | succ d ih =>
    intro i p hd hi hp0 hp1
    refine Gets.step (fun k => impl_ItemsOk.l0.eq_2 ..) (Gets.pos (by omega) (Gets.pos (by omega) (Gets.pos (by omega) ?_)))
    rw [rdI_get (by omega), implItemOk, drop_at l i (by omega)]
    simp only [Int.toNat_natCast, Option.bind_some]
    have hi1 := ih (i + 1) l[i].f0 (by omega) (by omega) (by omega) (fun _ h2 => by simp)
    rw [show (((i + 1 : Nat)) : Int) = (i : Int) + 1 by omega] at hi1
    rw [wrapId (x := (i : Int) + 1) (by omega) (by omega)]
    have hun : okFrom p (l[i] :: l.drop (i + 1)) = (iB l[i] && (decide (p < l[i].f0) && okFrom l[i].f0 (l.drop (i + 1)))) := rfl
    rw [hun]
    refine Gets.ite (fun h => ?_) (fun h => Gets.ret ?_)
    · have hb : iB l[i] = true := h
      rw [hb, Bool.true_and]
      refine Gets.ite (fun h1 => ?_) (fun h1 => ?_)
      · rw [wrapId (x := (i : Int) - 1) (by omega) (by omega)]
        refine Gets.pos (by omega) (Gets.pos (by omega) ?_)
        rw [rdI_get (by omega)]
        have e := hp1 (by omega) (by omega)
        have e2 : (l[((i : Int) - 1).toNat]'(by omega)) = l[i - 1]'(by omega) := by congr 1; omega
        rw [e2, ← e]
        refine Gets.ite (fun h2 => Gets.ret ?_) (fun h2 => hi1.mono (fun r hr => ?_))
        · rw [decide_eq_false (by omega)]; rfl
        · rw [hr, decide_eq_true (by omega)]; rfl
      · refine hi1.mono (fun r hr => ?_)
        have := iB_bd hb
        have hp := hp0 (by omega)
        rw [hr, decide_eq_true (show p < l[i].f0 by omega)]; rfl
    · have hb : iB l[i] = false := Bool.eq_false_iff.2 h
      rw [hb]; rfl
theorem implItemsOk (l : List S30) (hl : l.length ≤ 35184372088832) : Gets (fun k => impl_ItemsOk.f k l) (· = okFrom 0 l) := by
  unfold impl_ItemsOk.f
  exact implItemsOk_l0 l hl l.length 0 0 (by omega) (by omega) (fun _ => rfl) (fun h => by omega)

theorem insF (l : List S30) (m : S30) (i : Nat) (hi : i ≤ l.length) (hl : l.length ≤ 9000000) : impl_Item.f l (i : Int) [m] = some (l.take i ++ [m] ++ l.drop i) := by
  unfold impl_Item.f
  rw [if_pos ⟨by omega, by omega, rfl, by omega⟩]
  simp
theorem implPut_l0 (l : List S30) (m : S30) (hl : l.length ≤ 9000000) (d : Nat) : ∀ i : Nat, l.length - i = d → i ≤ l.length → (∀ x ∈ l.take i, x.f0 < m.f0) → Gets (fun k => impl_putItem.l0 k l (i : Int) m.f0 m.f1 m.f2 m.f3) (· = insI l m) := by
  induction d with
  | zero =>
    intro i hd hi ha
    have hd0 : i = l.length := by omega
    refine Gets.step (fun k => impl_putItem.l0.eq_2 ..) (Gets.neg (by omega) ?_)
    rw [insF l ⟨m.f0, m.f1, m.f2, m.f3⟩ i hi hl]
    refine Gets.ret ?_
    subst hd0
    rw [List.take_of_length_le (Nat.le_refl _)] at ha ⊢
    rw [List.drop_of_length_le (Nat.le_refl _), List.append_nil]
    have := insI_app l [] m ha
    rw [List.append_nil] at this
    rw [this]; rfl
  | succ d ih =>
    intro i hd hi ha
    have hsplit := insI_app (l.take i) (l.drop i) m ha
    rw [List.take_append_drop, drop_at l i (by omega)] at hsplit
    refine Gets.step (fun k => impl_putItem.l0.eq_2 ..) (Gets.pos (by omega) (Gets.pos (by omega) ?_))
    rw [rdI_get (by omega), wrapId (by omega) (by omega)]
    simp only [Int.toNat_natCast]
    rw [show ((i : Int) + 1) = ((i + 1 : Nat) : Int) by omega]
    refine Gets.ite (fun h => ?_) (fun h => Gets.ite (fun h2 => Gets.ret ?_) (fun h2 => ?_))
    · refine ih (i + 1) (by omega) (by omega) (fun x hx => ?_)
      rw [List.take_succ_eq_append_getElem (by omega)] at hx
      rcases List.mem_append.1 hx with hx | hx
      · exact ha x hx
      · simp at hx; rw [hx]; exact h
    · rw [hsplit, insI_eq h2, ← drop_at l i (by omega), List.take_append_drop]
    · rw [insF l ⟨m.f0, m.f1, m.f2, m.f3⟩ i hi hl]
      refine Gets.ret ?_
      rw [hsplit, insI_gt (by omega), ← drop_at l i (by omega)]
      simp
theorem implPut1 (l : List S30) (m : S30) (hl : l.length ≤ 9000000) : Gets (fun k => impl_putItem.f k l m.f0 m.f1 m.f2 m.f3) (· = insI l m) := by
  unfold impl_putItem.f
  exact implPut_l0 l m hl l.length 0 (by omega) (by omega) (by simp)
def atI (s : Int) : List S30 → Int × Int × Int × ByteArray × Bool
  | [] => (0, 0, 0, (⟨#[]⟩ : ByteArray), false)
  | m :: l => if m.f0 = s then (m.f0, m.f1, m.f2, m.f3, true) else atI s l
def hasI (l : List S30) (s : Int) : Bool := (atI s l).2.2.2.2
theorem hasI_iff (l : List S30) (s : Int) : hasI l s = true ↔ ∃ m ∈ l, m.f0 = s := by
  unfold hasI
  induction l with
  | nil => simp [atI]
  | cons m l ih =>
    by_cases h : m.f0 = s
    · simp [atI, h]
    · simp only [atI, h, if_false, List.mem_cons, exists_eq_or_imp, false_or]; exact ih
/-- The greatest number up to which none is missing, from n on; f: how many are left to look for. -/
def aruF (l : List S30) : Nat → Nat → Nat
  | 0, n => n
  | f + 1, n => if hasI l ((n : Int) + 1) = true then aruF l f (n + 1) else n
def aruI (l : List S30) : Nat := aruF l l.length 0
theorem pigeon (k : Nat) : ∀ l : List S30, (∀ s : Nat, 1 ≤ s → s ≤ k → ∃ m ∈ l, m.f0 = (s : Int)) → k ≤ l.length := by
  induction k with
  | zero => intro l _; omega
  | succ k ih =>
    intro l h
    obtain ⟨m, hm, he⟩ := h (k + 1) (by omega) (by omega)
    have h1 := ih (l.filter (fun x => decide (x.f0 ≠ ((k + 1 : Nat) : Int)))) (fun s h1 h2 => by
      obtain ⟨x, hx, hxe⟩ := h s h1 (by omega)
      exact ⟨x, List.mem_filter.2 ⟨hx, decide_eq_true (by omega)⟩, hxe⟩)
    have h2 : (l.filter (fun x => decide (x.f0 ≠ ((k + 1 : Nat) : Int)))).length < l.length := by
      rw [List.length_filter_lt_length_iff_exists]
      exact ⟨m, hm, by simp [he]⟩
    omega
theorem aruF_yes {l : List S30} {f n : Nat} (h : hasI l ((n : Int) + 1) = true) : aruF l (f + 1) n = aruF l f (n + 1) := by rw [aruF, if_pos h]
theorem aruF_no {l : List S30} {f n : Nat} (h : ¬ hasI l ((n : Int) + 1) = true) : aruF l (f + 1) n = n := by rw [aruF, if_neg h]
theorem aruF_le (l : List S30) (f : Nat) : ∀ n, n ≤ aruF l f n ∧ aruF l f n ≤ n + f := by
  induction f with
  | zero => intro n; simp [aruF]
  | succ f ih =>
    intro n
    have := ih (n + 1)
    by_cases h : hasI l ((n : Int) + 1) = true
    · rw [aruF_yes h]; omega
    · rw [aruF_no h]; omega

/-- Those of n, n + 1, .. u that are missing, f of them at the most looked at, until there are 20. -/
def missF (l : List S30) (u : Int) : Nat → Int → List Int → List Int
  | 0, _, acc => acc
  | f + 1, n, acc => if n ≤ u ∧ (acc.length : Int) < 20 then (if hasI l n = true then missF l u f (n + 1) acc else missF l u f (n + 1) (acc ++ [n])) else acc
theorem missF_length (l : List S30) (u : Int) (f : Nat) : ∀ (n : Int) (acc : List Int), acc.length ≤ 20 → (missF l u f n acc).length ≤ 20 := by
  induction f with
  | zero => intro n acc h; exact h
  | succ f ih =>
    intro n acc h
    unfold missF
    split
    · split
      · exact ih _ _ h
      · exact ih _ _ (by simp; omega)
    · exact h
def missI (l : List S30) (u : Int) : List Int := missF l (if u ≤ 60 then u else 60) 100 ((aruI l : Int) + 1) []

theorem mem_insI {l : List S30} {m y : S30} (h : y ∈ insI l m) : y = m ∨ y ∈ l := by
  induction l with
  | nil => exact .inl (by simpa [insI] using h)
  | cons x l ih =>
    unfold insI at h
    split at h
    · rcases List.mem_cons.1 h with h | h
      · exact .inr (by simp [h])
      · rcases ih h with h | h
        · exact .inl h
        · exact .inr (by simp [h])
    · split at h
      · exact .inr h
      · rcases List.mem_cons.1 h with h | h
        · exact .inl h
        · exact .inr h
theorem insI_sub {l : List S30} {m y : S30} (h : y ∈ l) : y ∈ insI l m := by
  induction l with
  | nil => cases h
  | cons x l ih =>
    unfold insI
    split
    · rcases List.mem_cons.1 h with h | h
      · simp [h]
      · exact List.mem_cons_of_mem _ (ih h)
    · split
      · exact h
      · exact List.mem_cons_of_mem _ h
theorem insI_at (l : List S30) (m : S30) : ∃ y ∈ insI l m, y.f0 = m.f0 := by
  induction l with
  | nil => exact ⟨m, by simp [insI], rfl⟩
  | cons x l ih =>
    unfold insI
    split
    · obtain ⟨y, hy, he⟩ := ih
      exact ⟨y, List.mem_cons_of_mem _ hy, he⟩
    · split
      · rename_i h; exact ⟨x, by simp, h⟩
      · exact ⟨m, by simp, rfl⟩
theorem hasI_insI (l : List S30) (m : S30) (x : Int) : hasI (insI l m) x = true ↔ hasI l x = true ∨ x = m.f0 := by
  rw [hasI_iff, hasI_iff]
  constructor
  · rintro ⟨y, hy, he⟩
    rcases mem_insI hy with rfl | hy
    · exact .inr he.symm
    · exact .inl ⟨y, hy, he⟩
  · rintro (⟨y, hy, he⟩ | rfl)
    · exact ⟨y, insI_sub hy, he⟩
    · exact insI_at l m
theorem missF_mem (l : List S30) (u : Int) (f : Nat) : ∀ (n : Int) (acc : List Int), acc.length + (u + 1 - n).toNat ≤ 20 → (u + 1 - n).toNat ≤ f → ∀ x, x ∈ missF l u f n acc ↔ x ∈ acc ∨ (n ≤ x ∧ x ≤ u ∧ hasI l x = false) := by
  induction f with
  | zero =>
    intro n acc h1 h2 x
    unfold missF
    exact ⟨.inl, fun h => h.elim id (fun h => by omega)⟩
  | succ f ih =>
    intro n acc h1 h2 x
    unfold missF
    by_cases hc : n ≤ u ∧ (acc.length : Int) < 20
    · rw [if_pos hc]
      by_cases hh : hasI l n = true
      · rw [if_pos hh, ih (n + 1) acc (by omega) (by omega)]
        refine or_congr_right ⟨fun h => ⟨by omega, h.2⟩, fun h => ⟨?_, h.2⟩⟩
        have : x ≠ n := fun e => by rw [e, hh] at h; cases h.2.2
        omega
      · rw [if_neg hh, ih (n + 1) (acc ++ [n]) (by simp; omega) (by omega)]
        simp only [List.mem_append, List.mem_singleton, or_assoc]
        refine or_congr_right ⟨fun h => ?_, fun h => ?_⟩
        · rcases h with rfl | h
          · exact ⟨Int.le_refl _, hc.1, by simpa using hh⟩
          · exact ⟨by omega, h.2⟩
        · by_cases e : x = n
          · exact .inl e
          · exact .inr ⟨by omega, h.2⟩
    · rw [if_neg hc]
      exact ⟨.inl, fun h => h.elim id (fun h => by omega)⟩
theorem missF_asc (l : List S30) (u : Int) (f : Nat) : ∀ (n : Int) (acc : List Int), acc.Pairwise (· < ·) → (∀ x ∈ acc, x < n) → (missF l u f n acc).Pairwise (· < ·) := by
  induction f with
  | zero => intro n acc h _; exact h
  | succ f ih =>
    intro n acc h h2
    unfold missF
    split
    · split
      · exact ih _ _ h (fun x hx => by have := h2 x hx; omega)
      · refine ih _ _ ?_ (fun x hx => ?_)
        · rw [List.pairwise_append]
          exact ⟨h, by simp, fun a ha b hb => by rw [List.mem_singleton.1 hb]; exact h2 a ha⟩
        · rcases List.mem_append.1 hx with hx | hx
          · have := h2 x hx; omega
          · rw [List.mem_singleton.1 hx]; omega
    · exact h
theorem aruF_has (l : List S30) (f : Nat) : ∀ n : Nat, (∀ s : Nat, 1 ≤ s → s ≤ n → hasI l (s : Int) = true) → ∀ s : Nat, 1 ≤ s → s ≤ aruF l f n → hasI l (s : Int) = true := by
  induction f with
  | zero => intro n h s h1 h2; exact h s h1 h2
  | succ f ih =>
    intro n h s h1 h2
    by_cases hh : hasI l ((n : Int) + 1) = true
    · rw [aruF_yes hh] at h2
      refine ih (n + 1) (fun t h3 h4 => ?_) s h1 h2
      rcases Nat.lt_or_ge n t with h5 | h5
      · rw [show t = n + 1 by omega]; exact hh
      · exact h t h3 h5
    · rw [aruF_no hh] at h2; exact h s h1 h2
theorem aruI_has (l : List S30) (s : Nat) (h1 : 1 ≤ s) (h2 : s ≤ aruI l) : hasI l (s : Int) = true := aruF_has l _ 0 (fun t h3 h4 => by omega) s h1 h2
theorem aruF_max (l : List S30) (f : Nat) : ∀ n u : Nat, n + f = l.length → u ≤ l.length → (∀ s : Nat, 1 ≤ s → s ≤ u → hasI l (s : Int) = true) → u ≤ aruF l f n := by
  induction f with
  | zero => intro n u h1 h2 _; show u ≤ n; omega
  | succ f ih =>
    intro n u h1 h2 h3
    by_cases hu : u ≤ n
    · have := (aruF_le l (f + 1) n).1; omega
    · rw [aruF_yes (by have := h3 (n + 1) (by omega) (by omega); rwa [show ((n + 1 : Nat) : Int) = (n : Int) + 1 by omega] at this)]
      exact ih (n + 1) u (by omega) h2 h3
theorem aruI_max (l : List S30) (u : Nat) (h : ∀ s : Nat, 1 ≤ s → s ≤ u → hasI l (s : Int) = true) : u ≤ aruI l :=
  aruF_max l _ 0 u (by omega) (pigeon u l (fun s h1 h2 => (hasI_iff l _).1 (h s h1 h2))) h
theorem aruI_next (l : List S30) : hasI l ((aruI l : Int) + 1) = false := by
  cases hh : hasI l ((aruI l : Int) + 1) with
  | false => rfl
  | true =>
    have := aruI_max l (aruI l + 1) (fun s h1 h2 => by
      rcases Nat.lt_or_ge (aruI l) s with h3 | h3
      · rw [show s = aruI l + 1 by omega]; exact hh
      · exact aruI_has l s h1 h3)
    omega
theorem aruI_le (l : List S30) : aruI l ≤ l.length := by have := (aruF_le l l.length 0).2; unfold aruI; omega

theorem rdL_get {α : Type} {l : List (List α)} {i : Nat} (h : i < l.length) : l.getD ((i : Int)).toNat [] = l[i] := by
  rw [Int.toNat_natCast, List.getD_eq_getElem?_getD, List.getElem?_eq_getElem h]; rfl
def uniL (acc : List S30) (l : List S30) : List S30 := if okFrom 0 l = true then l.foldl insI acc else acc
def uniT (ls : List (List S30)) : List S30 := ls.foldl uniL []
theorem okFrom_len (l : List S30) : ∀ p : Int, 0 ≤ p → okFrom p l = true → (l.length : Int) ≤ 60 - p ∨ l = [] := by
  induction l with
  | nil => intro p _ _; exact .inr rfl
  | cons x l ih =>
    intro p hp h
    obtain ⟨h1, h2, h3⟩ := okFrom_cons.1 h
    have := iB_bd h1
    rcases ih x.f0 (by omega) h3 with h4 | h4
    · left; rw [List.length_cons]; omega
    · left; rw [h4]; simp; omega
theorem okFrom_len60 {l : List S30} (h : okFrom 0 l = true) : l.length ≤ 60 := by
  rcases okFrom_len l 0 (by omega) h with h1 | h1
  · omega
  · rw [h1]; simp
theorem ins_fold_ok (l : List S30) : ∀ acc : List S30, okFrom 0 acc = true → (∀ m ∈ l, iB m = true) → okFrom 0 (l.foldl insI acc) = true := by
  induction l with
  | nil => intro acc h _; exact h
  | cons m l ih =>
    intro acc h hm
    have hm1 := hm m (by simp)
    exact ih _ (okFrom_insI hm1 (by have := iB_bd hm1; omega) h) (fun x hx => hm x (by simp [hx]))
theorem uniL_ok {acc l : List S30} (h : okFrom 0 acc = true) : okFrom 0 (uniL acc l) = true := by
  unfold uniL
  split
  · rename_i hl; exact ins_fold_ok l acc h (okFrom_iB hl)
  · exact h
theorem uniT_ok (ls : List (List S30)) : ∀ acc, okFrom 0 acc = true → okFrom 0 (ls.foldl uniL acc) = true := by
  induction ls with
  | nil => intro acc h; exact h
  | cons l ls ih => intro acc h; exact ih _ (uniL_ok h)
theorem implUnion_l1 (ls : List (List S30)) (l : List S30) (hok : okFrom 0 l = true) (x10 : Int) (Q : List S30 → Prop) (d : Nat) : ∀ (j : Nat) (acc : List S30), l.length - j = d → j ≤ l.length → okFrom 0 acc = true →
    Gets (fun k => impl_Union.l0 k ((l.drop j).foldl insI acc) ls (ls.length : Int) (wrap64 (x10 + 1))) Q → Gets (fun k => impl_Union.l1 k acc ls (ls.length : Int) x10 l (l.length : Int) (j : Int)) Q := by
  have hlen := okFrom_len60 hok
  induction d with
  | zero =>
    intro j acc hd hj ha k
    refine Gets.step (fun k => impl_Union.l1.eq_2 ..) (Gets.neg (by omega) ?_)
    rw [List.drop_eq_nil_of_le (by omega)] at k
    exact k
  | succ d ih =>
    intro j acc hd hj ha k
    have hjl : j < l.length := by omega
    have hal := okFrom_len60 ha
    refine Gets.step (fun k => impl_Union.l1.eq_2 ..) (Gets.pos (by omega) (Gets.pos (by omega) (Gets.pos (by omega) ?_)))
    rw [rdI_get (l := l) (i := (j : Int)) (by simpa using hjl)]
    simp only [Int.toNat_natCast]
    have hm1 := okFrom_iB hok l[j] (List.getElem_mem hjl)
    refine Gets.bindE (implPut1 acc l[j] (by omega)).ev ?_
    rw [wrapId (by omega) (by omega), show (j : Int) + 1 = ((j + 1 : Nat) : Int) by omega]
    rw [List.drop_eq_getElem_cons hjl, List.foldl_cons] at k
    exact ih (j + 1) _ (by omega) (by omega) (okFrom_insI hm1 (by have := iB_bd hm1; omega) ha) k
theorem implUnion_l0 (ls : List (List S30)) (hls : ls.length ≤ 1048576) (hin : ∀ l ∈ ls, l.length ≤ 1048576) (d : Nat) : ∀ (i : Nat) (acc : List S30), ls.length - i = d → i ≤ ls.length → okFrom 0 acc = true → Gets (fun k => impl_Union.l0 k acc ls (ls.length : Int) (i : Int)) (· = (ls.drop i).foldl uniL acc) := by
  induction d with
  | zero =>
    intro i acc hd hi ha
    refine Gets.step (fun k => impl_Union.l0.eq_2 ..) (Gets.neg (by omega) (Gets.ret ?_))
    rw [List.drop_eq_nil_of_le (by omega)]; rfl
  | succ d ih =>
    intro i acc hd hi ha
    have hil : i < ls.length := by omega
    have e : rd_L3 ls (i : Int) = ls[i] := rdL_get hil
    have hl := hin ls[i] (List.getElem_mem hil)
    have nx : ∀ acc', okFrom 0 acc' = true → Gets (fun k => impl_Union.l0 k acc' ls (ls.length : Int) (wrap64 ((i : Int) + 1))) (· = (ls.drop (i + 1)).foldl uniL acc') := by
      intro acc' ha'
      rw [wrapId (by omega) (by omega), show (i : Int) + 1 = ((i + 1 : Nat) : Int) by omega]
      exact ih (i + 1) acc' (by omega) (by omega) ha'
    refine Gets.step (fun k => impl_Union.l0.eq_2 ..) (Gets.pos (by omega) (Gets.pos (by omega) (Gets.pos (by omega) ?_)))
    rw [e, List.drop_eq_getElem_cons hil, List.foldl_cons]
    refine Gets.bind (implItemsOk ls[i] (by omega)) (fun t ht => ?_)
    subst ht
    refine Gets.ite (fun h => ?_) (fun h => ?_)
    · have e2 : uniL acc ls[i] = ls[i].foldl insI acc := by unfold uniL; rw [if_pos h]
      rw [e2]
      have := implUnion_l1 ls ls[i] h (i : Int) (· = (ls.drop (i + 1)).foldl uniL (ls[i].foldl insI acc)) ls[i].length 0 acc (by omega) (by omega) ha (by
        rw [List.drop_zero]
        exact nx _ (ins_fold_ok ls[i] acc ha (okFrom_iB h)))
      exact this
    · have e2 : uniL acc ls[i] = acc := by unfold uniL; rw [if_neg h]
      rw [e2]
      exact nx acc ha
theorem implUnion (ls : List (List S30)) (hls : ls.length ≤ 1048576) (hin : ∀ l ∈ ls, l.length ≤ 1048576) : Gets (fun k => impl_Union.f k ls) (· = uniT ls) := by
  unfold impl_Union.f
  have := implUnion_l0 ls hls hin ls.length 0 [] (by omega) (by omega) rfl
  rw [List.drop_zero] at this
  exact this

theorem implItemAt_l0 (l : List S30) (s : Int) (hl : l.length ≤ 35184372088832) (d : Nat) : ∀ i : Nat, l.length - i = d → i ≤ l.length → Gets (fun k => impl_ItemAt.l0 k s l (l.length : Int) (i : Int)) (· = atI s (l.drop i)) := by
  induction d with
  | zero =>
    intro i hd hi
    refine Gets.step (fun k => impl_ItemAt.l0.eq_2 ..) (Gets.neg (by omega) (Gets.ret ?_))
    rw [List.drop_of_length_le (by omega)]; rfl
  | succ d ih =>
    intro i hd hi
    refine Gets.step (fun k => impl_ItemAt.l0.eq_2 ..) (Gets.pos (by omega) (Gets.pos (by omega) (Gets.pos (by omega) ?_)))
    rw [rdI_get (by omega), wrapId (by omega) (by omega), drop_at l i (by omega)]
    simp only [Int.toNat_natCast, atI]
    refine Gets.ite (fun h => Gets.ret (by rw [if_pos h])) (fun h => ?_)
    rw [show ((i : Int) + 1) = ((i + 1 : Nat) : Int) by omega]
    refine (ih (i + 1) (by omega) (by omega)).mono (fun r hr => ?_)
    rw [hr, if_neg h]
theorem implItemAt (l : List S30) (s : Int) (hl : l.length ≤ 35184372088832) : Gets (fun k => impl_ItemAt.f k l s) (· = atI s l) := by
  unfold impl_ItemAt.f
  exact implItemAt_l0 l s hl l.length 0 (by omega) (by omega)

/-! ### texts as lists of numbers -/
theorem bytesOf_inj {a b : ByteArray} (h : bytesOf a = bytesOf b) : a = b := by
  have hl : a.data.toList = b.data.toList := by
    unfold bytesOf at h
    exact List.map_inj_right (fun x y hxy => UInt8.toNat_inj.1 (by exact_mod_cast hxy)) |>.1 h
  have hd : a.data = b.data := Array.toList_inj.1 hl
  cases a; cases b; cases hd; rfl
theorem toList_iff (a b : ByteArray) : a.toList = b.toList ↔ a = b := by
  rw [Lib.toList_data, Lib.toList_data]
  exact ⟨fun h => bytesOf_inj (by unfold bytesOf; rw [h]), fun h => by rw [h]⟩
theorem bytesOf_range {s : ByteArray} {x : Int} (h : x ∈ bytesOf s) : 0 ≤ x ∧ x < 256 := by
  unfold bytesOf at h
  obtain ⟨b, _, rfl⟩ := List.mem_map.1 h
  have := b.toNat_lt
  omega
theorem bytesOf_str {xs : List Int} (h : ∀ x ∈ xs, 0 ≤ x ∧ x < 256) : bytesOf (strOfNums xs) = xs := by
  unfold bytesOf
  rw [strOfNums_data, List.map_map]
  conv => rhs; rw [← List.map_id xs]
  refine List.map_congr_left (fun x hx => ?_)
  have := h x hx
  simp only [Function.comp, UInt8.toNat_ofNat', id]
  omega
theorem str_bytesOf (s : ByteArray) : strOfNums (bytesOf s) = s := bytesOf_inj (bytesOf_str (fun _ => bytesOf_range))
theorem bytesOf_extract (s : ByteArray) (a b : Nat) : bytesOf (s.extract a b) = ((bytesOf s).drop a).take (b - a) := by
  unfold bytesOf
  rw [Lib.extract_data, List.map_take, List.map_drop]
theorem bytesOf_app (a b : ByteArray) : bytesOf (a ++ b) = bytesOf a ++ bytesOf b := by
  unfold bytesOf
  rw [← List.map_append]
  congr 1
  first | done | simp
theorem bt_getD (s : ByteArray) (i : Int) : bt s i = (bytesOf s).getD i.toNat 0 := (rd_bytesOf s i).symm
theorem bytesOf_empty : bytesOf (⟨#[]⟩ : ByteArray) = [] := rfl
theorem size_eq (s : ByteArray) : s.size = (bytesOf s).length := (bytesOf_length s).symm
theorem size_app (a b : ByteArray) : (a ++ b).size = a.size + b.size := by simp

/-! ### the reader of draws: it always answers -/
theorem and_i64 (x : Int) (m : Nat) (hm : m < 9223372036854775808) : 0 ≤ Go.bits .and .i64 x (m : Int) ∧ Go.bits .and .i64 x (m : Int) ≤ (m : Int) := by
  have h1 : (BitVec.ofInt IntKind.i64.bits x &&& BitVec.ofInt IntKind.i64.bits (m : Int)).toNat ≤ m := by
    rw [BitVec.toNat_and]
    refine Nat.le_trans Nat.and_le_right ?_
    rw [BitVec.ofInt_natCast, BitVec.toNat_ofNat]
    exact Nat.mod_le _ _
  unfold Go.bits
  simp only [IntKind.wrap_i64]
  omega
theorem and255 (x : Int) : 0 ≤ Go.bits .and .i64 x 255 ∧ Go.bits .and .i64 x 255 < 256 := by
  have h := and_i64 x 255 (by decide)
  rw [show ((255 : Nat) : Int) = 255 from rfl] at h
  omega
theorem wrap_bd (x : Int) : -9223372036854775808 ≤ wrap64 x ∧ wrap64 x ≤ 9223372036854775807 := by unfold wrap64; omega
theorem dByte (l : List Int) (p z : Int) (hl : l.length ≤ 1048576) (hp : 0 ≤ p ∧ p ≤ l.length) : ∃ v p' z', spec_l01Byte.f l p z = some (v, p', z') ∧ (0 ≤ v ∧ v < 256) ∧ 0 ≤ p' ∧ p' ≤ l.length := by
  unfold spec_l01Byte.f
  by_cases h : p < (l.length : Int)
  · rw [if_pos h, if_pos hp.1]
    refine ⟨_, _, _, rfl, and255 _, ?_⟩
    rw [wrapId (by omega) (by omega)]; omega
  · rw [if_neg h]
    exact ⟨_, _, _, rfl, and255 _, hp⟩
theorem dBelow (l : List Int) (p z n : Int) (hl : l.length ≤ 1048576) (hp : 0 ≤ p ∧ p ≤ l.length) (hn : 0 < n) : ∃ v p' z', spec_l01Below.f l p z n = some (v, p', z') ∧ (0 ≤ v ∧ v < n) ∧ 0 ≤ p' ∧ p' ≤ l.length := by
  unfold spec_l01Below.f
  rw [if_neg (by omega)]
  by_cases h : n ≤ 256
  · rw [if_pos h]
    obtain ⟨v, p1, z1, e1, hv, hp1⟩ := dByte l p z hl hp
    rw [e1]
    simp only [Option.bind_some]
    rw [if_neg (by omega)]
    refine ⟨_, _, _, rfl, ?_, hp1⟩
    rw [tmod_nn hv.1]
    exact ⟨Int.emod_nonneg _ (by omega), Int.emod_lt_of_pos _ hn⟩
  · rw [if_neg h]
    obtain ⟨v1, p1, z1, e1, hv1, hp1⟩ := dByte l p z hl hp
    rw [e1]
    simp only [Option.bind_some]
    obtain ⟨v2, p2, z2, e2, hv2, hp2⟩ := dByte l p1 z1 hl hp1
    rw [e2]
    simp only [Option.bind_some]
    obtain ⟨v3, p3, z3, e3, hv3, hp3⟩ := dByte l p2 z2 hl hp2
    rw [e3]
    simp only [Option.bind_some]
    obtain ⟨v4, p4, z4, e4, hv4, hp4⟩ := dByte l p3 z3 hl hp3
    rw [e4]
    simp only [Option.bind_some]
    rw [if_neg (by omega)]
    refine ⟨_, _, _, rfl, ?_, hp4⟩
    rw [wrapId (x := v1 * 16777216) (by omega) (by omega), wrapId (x := v2 * 65536) (by omega) (by omega), wrapId (x := v1 * 16777216 + v2 * 65536) (by omega) (by omega), wrapId (x := v3 * 256) (by omega) (by omega), wrapId (x := v1 * 16777216 + v2 * 65536 + v3 * 256) (by omega) (by omega), wrapId (by omega) (by omega), tmod_nn (by omega)]
    exact ⟨Int.emod_nonneg _ (by omega), Int.emod_lt_of_pos _ hn⟩
theorem dNew_l0 (l : List Int) (hl : l.length ≤ 1048576) (d : Nat) : ∀ (i : Nat) (h : Int), l.length - i = d → i ≤ l.length → Gets (fun k => spec_l01New.l0 k l h (i : Int)) (fun r => r.1 = l ∧ r.2.1 = 0) := by
  induction d with
  | zero =>
    intro i h hd hi
    exact Gets.step (fun k => spec_l01New.l0.eq_2 ..) (Gets.neg (by omega) (Gets.ret ⟨rfl, rfl⟩))
  | succ d ih =>
    intro i h hd hi
    refine Gets.step (fun k => spec_l01New.l0.eq_2 ..) (Gets.pos (by omega) (Gets.ite (fun _ => Gets.pos (by omega) ?_) (fun _ => Gets.ret ⟨rfl, rfl⟩)))
    rw [wrapId (x := (i : Int) + 1) (by omega) (by omega), show ((i : Int) + 1) = ((i + 1 : Nat) : Int) by omega]
    exact ih (i + 1) _ (by omega) (by omega)
theorem dNew (l : List Int) (hl : l.length ≤ 1048576) : Gets (fun k => spec_l01New.f k l) (fun r => r.1 = l ∧ r.2.1 = 0) := by
  unfold spec_l01New.f
  exact dNew_l0 l hl _ 0 _ rfl (by omega)

theorem rdS_get {l : List ByteArray} {i : Int} (h : i.toNat < l.length) : rdOf ByteArray.empty l i = l[i.toNat] := by
  unfold rdOf; rw [List.getD_eq_getElem?_getD, List.getElem?_eq_getElem h]; rfl
def shortL (l : List ByteArray) : Bool := l.all (fun s => decide ((s.size : Int) ≤ 60))
theorem shortL_iff (l : List ByteArray) : shortL l = true ↔ ∀ s ∈ l, s.size ≤ 60 := by
  unfold shortL
  rw [List.all_eq_true]
  exact ⟨fun h s hs => by have := of_decide_eq_true (h s hs); omega, fun h s hs => decide_eq_true (by have := h s hs; omega)⟩
theorem shortL_cons (s : ByteArray) (l : List ByteArray) : shortL (s :: l) = (decide ((s.size : Int) ≤ 60) && shortL l) := rfl

theorem dPickS (l : List Int) (p z : Int) (m : List ByteArray) (n : Nat) (hl : l.length ≤ 1048576) (hp : 0 ≤ p ∧ p ≤ l.length) (hm : 0 < m.length) (hs : ∀ t ∈ m, t.size ≤ n) : ∃ v p' z', spec_l01Pick.f l p z m = some (v, p', z') ∧ v.size ≤ n ∧ 0 ≤ p' ∧ p' ≤ l.length := by
  unfold spec_l01Pick.f
  obtain ⟨v, p', z', e, hv, hp'⟩ := dBelow l p z (m.length : Int) hl hp (by omega)
  rw [e]
  simp only [Option.bind_some]
  rw [if_pos hv.1, if_pos hv.2]
  refine ⟨_, _, _, rfl, ?_, hp'⟩
  have e2 : rdOf ByteArray.empty m v = m[v.toNat]'(by omega) := rdS_get (by omega)
  rw [e2]
  exact hs _ (List.getElem_mem _)

theorem dOnce (l : List Int) (p z n : Int) (hl : l.length ≤ 1048576) (hp : 0 ≤ p ∧ p ≤ l.length) (hn : 0 < n) : ∃ v p' z', spec_l01Once.f l p z n = some (v, p', z') ∧ 0 ≤ p' ∧ p' ≤ l.length := by
  unfold spec_l01Once.f
  obtain ⟨v, p', z', e, _, hp'⟩ := dBelow l p z n hl hp hn
  rw [e]
  exact ⟨_, _, _, rfl, hp'⟩

theorem dOf (l : List Int) (p z n : Int) (hl : l.length ≤ 1048576) (hp : 0 ≤ p ∧ p ≤ l.length) (hn : 1 ≤ n ∧ n ≤ 60) : ∃ b c s p' z', spec_l05Of.f l p z n = some (n, b, c, s, p', z') ∧ iB ⟨n, b, c, s⟩ = true ∧ 0 ≤ p' ∧ p' ≤ l.length := by
  unfold spec_l05Of.f
  obtain ⟨v, p1, z1, e1, hv, hp1⟩ := dBelow l p z 2 hl hp (by omega)
  rw [e1]
  simp only [Option.bind_some]
  obtain ⟨s, p2, z2, e2, hs, hp2⟩ := dPickS l p1 z1 _ 3 hl hp1 (by simp) (show ∀ t ∈ ([(⟨#[]⟩ : ByteArray), (⟨#[120]⟩ : ByteArray), (⟨#[121, 121]⟩ : ByteArray), (⟨#[122, 122, 122]⟩ : ByteArray)] : List ByteArray), t.size ≤ 3 by
    intro t ht
    simp only [List.mem_cons, List.not_mem_nil, or_false] at ht
    rcases ht with rfl | rfl | rfl | rfl <;> decide)
  rw [e2]
  refine ⟨_, _, _, _, _, rfl, ?_, hp2⟩
  unfold iB itemB
  have h3 : 0 ≤ Int.tmod n 3 ∧ Int.tmod n 3 < 3 := by rw [tmod_nn (by omega)]; omega
  rw [wrapId (x := 1 + Int.tmod n 3) (by omega) (by omega), wrapId (x := 1 + v) (by omega) (by omega)]
  exact decide_eq_true ⟨hn, by simp only; omega, by simp only; omega, by simp only; omega⟩
theorem okFrom_snoc {l : List S30} {m : S30} (hm : iB m = true) : ∀ {p : Int}, p < m.f0 → okFrom p l = true → (∀ x ∈ l, x.f0 < m.f0) → okFrom p (l ++ [m]) = true := by
  induction l with
  | nil => intro p hp _ _; exact okFrom_cons.2 ⟨hm, hp, rfl⟩
  | cons x l ih =>
    intro p hp h hx
    obtain ⟨h1, h2, h3⟩ := okFrom_cons.1 h
    exact okFrom_cons.2 ⟨h1, h2, ih (hx x (by simp)) h3 (fun y hy => hx y (by simp [hy]))⟩
theorem dItems_l0 (l : List Int) (hl : l.length ≤ 1048576) (d : Nat) : ∀ (i : Nat) (acc : List S30) (p z : Int), 10 - i = d → 1 ≤ i → i ≤ 10 → acc.length < i → okFrom 0 acc = true → (∀ x ∈ acc, x.f0 < (i : Int)) → (0 ≤ p ∧ p ≤ l.length) → Gets (fun k => spec_l05Items.l0 k acc (i : Int) l p z) (fun r => r.1.length ≤ 9 ∧ okFrom 0 r.1 = true ∧ (∀ x ∈ r.1, x.f0 < 10) ∧ 0 ≤ r.2.1 ∧ r.2.1 ≤ l.length) := by
  induction d with
  | zero =>
    intro i acc p z hd h1 hi ha ho hx hp
    refine Gets.step (fun k => spec_l05Items.l0.eq_2 ..) ?_
    obtain ⟨v, p', z', e, hv, hp'⟩ := dBelow l p z 10 hl hp (by omega)
    simp only [e, Option.bind_some]
    exact Gets.neg (by omega) (Gets.ret ⟨by simp only; omega, ho, fun x hxx => by have := hx x hxx; omega, hp'⟩)
  | succ d ih =>
    intro i acc p z hd h1 hi ha ho hx hp
    refine Gets.step (fun k => spec_l05Items.l0.eq_2 ..) ?_
    obtain ⟨v, p', z', e, hv, hp'⟩ := dBelow l p z 10 hl hp (by omega)
    simp only [e, Option.bind_some]
    refine Gets.ite (fun h => ?_) (fun h => Gets.ret ⟨by simp only; omega, ho, fun x hxx => by have := hx x hxx; omega, hp'⟩)
    obtain ⟨b, p2, z2, e2, hp2⟩ := dOnce l p' z' 4 hl hp' (by omega)
    simp only [e2, Option.bind_some]
    rw [wrapId (x := (i : Int) + 1) (by omega) (by omega), show ((i : Int) + 1) = ((i + 1 : Nat) : Int) by omega]
    refine Gets.ite (fun hb => ?_) (fun hb => ?_)
    · exact ih (i + 1) acc p2 z2 (by omega) (by omega) (by omega) (by omega) ho (fun x hxx => by have := hx x hxx; omega) hp2
    · obtain ⟨b, c, s, p3, z3, e3, hm, hp3⟩ := dOf l p2 z2 (i : Int) hl hp2 (by omega)
      simp only [e3, Option.bind_some]
      refine Gets.pos (by omega) (ih (i + 1) _ p3 z3 (by omega) (by omega) (by omega) (by simp; omega) (okFrom_snoc hm (by simp only; omega) ho hx) (fun x hxx => ?_) hp3)
      rcases List.mem_append.1 hxx with h2 | h2
      · have := hx x h2; omega
      · rw [List.mem_singleton.1 h2]; simp only; omega
theorem dItems (l : List Int) (p z : Int) (hl : l.length ≤ 1048576) (hp : 0 ≤ p ∧ p ≤ l.length) : Gets (fun k => spec_l05Items.f k l p z) (fun r => r.1.length ≤ 9 ∧ okFrom 0 r.1 = true ∧ (∀ x ∈ r.1, x.f0 < 10) ∧ 0 ≤ r.2.1 ∧ r.2.1 ≤ l.length) := by
  unfold spec_l05Items.f
  exact dItems_l0 l hl _ 1 [] p z rfl (by omega) (by omega) (by simp) rfl (by simp) hp
theorem dStores (l : List Int) (hl : l.length ≤ 1048576) : Gets (fun k => spec_DrawStores.f k l) (fun r => (r.1.length ≤ 9 ∧ okFrom 0 r.1 = true ∧ ∀ x ∈ r.1, x.f0 < 10) ∧ (r.2.length ≤ 9 ∧ okFrom 0 r.2 = true ∧ ∀ x ∈ r.2, x.f0 < 10)) := by
  unfold spec_DrawStores.f
  refine Gets.bind (dNew l hl) (fun c hc => ?_)
  obtain ⟨c1, c2, c3⟩ := c
  obtain ⟨h1, h2⟩ := hc
  simp only at h1 h2
  subst h1 h2
  refine Gets.bind (dItems c1 0 c3 hl (by omega)) (fun a ha => Gets.bind (dItems c1 a.2.1 a.2.2 hl ha.2.2.2) (fun b hb => Gets.ret ⟨⟨ha.1, ha.2.1, ha.2.2.1⟩, ⟨hb.1, hb.2.1, hb.2.2.1⟩⟩))

theorem sameItems_l0 (a : List S30) (ha : a.length ≤ 35184372088832) (d : Nat) : ∀ i : Nat, a.length - i = d → Gets (fun k => laws_sameItems.l0 k a a (i : Int)) (· = true) := by
  induction d with
  | zero => intro i hd; exact Gets.step (fun k => laws_sameItems.l0.eq_2 ..) (Gets.neg (by omega) (Gets.ret rfl))
  | succ d ih =>
    intro i hd
    refine Gets.step (fun k => laws_sameItems.l0.eq_2 ..) (Gets.pos (by omega) (Gets.pos (by omega) (Gets.pos (by omega) (Gets.neg (by simp) ?_))))
    rw [wrapId (by omega) (by omega), show ((i : Int) + 1) = ((i + 1 : Nat) : Int) by omega]
    exact ih (i + 1) (by omega)
theorem sameItems_true (a : List S30) (ha : a.length ≤ 35184372088832) : Gets (fun k => laws_sameItems.f k a a) (· = true) := by
  unfold laws_sameItems.f
  exact Gets.pos rfl (sameItems_l0 a ha _ 0 rfl)

theorem sameInts_l0 (a : List Int) (ha : a.length ≤ 35184372088832) (d : Nat) : ∀ i : Nat, a.length - i = d → i ≤ a.length → Gets (fun k => laws_sameInts.l0 k a a (i : Int)) (· = true) := by
  induction d with
  | zero => intro i hd hi; exact Gets.step (fun k => laws_sameInts.l0.eq_2 ..) (Gets.neg (by omega) (Gets.ret rfl))
  | succ d ih =>
    intro i hd hi
    refine Gets.step (fun k => laws_sameInts.l0.eq_2 ..) (Gets.pos (by omega) (Gets.pos (by omega) (Gets.pos (by omega) (Gets.pos rfl ?_))))
    rw [wrapId (by omega) (by omega), show (i : Int) + 1 = ((i + 1 : Nat) : Int) by omega]
    exact ih (i + 1) (by omega) (by omega)
theorem sameInts_true (a : List Int) (ha : a.length ≤ 35184372088832) : Gets (fun k => laws_sameInts.f k a a) (· = true) := by
  unfold laws_sameInts.f
  exact Gets.pos rfl (sameInts_l0 a ha a.length 0 (by omega) (by omega))

theorem atI_keep {s : Int} {l : List S30} {m : S30} : ∀ {p : Int}, okFrom p l = true → hasI l s = true → atI s (insI l m) = atI s l := by
  induction l with
  | nil => intro p _ h; simp [hasI, atI] at h
  | cons x l ih =>
    intro p h hh
    obtain ⟨h1, h2, h3⟩ := okFrom_cons.1 h
    rcases Int.lt_trichotomy x.f0 m.f0 with hc | hc | hc
    · rw [insI_lt hc]
      by_cases e : x.f0 = s
      · simp [atI, e]
      · have hl : hasI l s = true := by simpa [hasI, atI, e] using hh
        simp only [atI, if_neg e]
        exact ih h3 hl
    · rw [insI_eq hc]
    · rw [insI_gt hc]
      obtain ⟨y, hy, he⟩ := (hasI_iff _ _).1 hh
      have hne : ¬ m.f0 = s := by
        rcases List.mem_cons.1 hy with rfl | hy
        · omega
        · have := okFrom_gt h3 y hy; omega
      simp [atI, hne]
theorem atI_mem {x : S30} {l : List S30} : ∀ {p : Int}, okFrom p l = true → x ∈ l → atI x.f0 l = (x.f0, x.f1, x.f2, x.f3, true) := by
  induction l with
  | nil => intro p _ h; cases h
  | cons y l ih =>
    intro p h hx
    obtain ⟨h1, h2, h3⟩ := okFrom_cons.1 h
    rcases List.mem_cons.1 hx with rfl | hx
    · simp [atI]
    · have := okFrom_gt h3 x hx
      have hne : ¬ y.f0 = x.f0 := by omega
      simp only [atI, if_neg hne]
      exact ih h3 hx
theorem fold_keep {s : Int} (l : List S30) : ∀ acc : List S30, okFrom 0 acc = true → (∀ m ∈ l, iB m = true) → hasI acc s = true → atI s (l.foldl insI acc) = atI s acc := by
  induction l with
  | nil => intro acc _ _ _; rfl
  | cons m l ih =>
    intro acc h hm hh
    have hm1 := hm m (by simp)
    rw [List.foldl_cons, ih _ (okFrom_insI hm1 (by have := iB_bd hm1; omega) h) (fun x hx => hm x (by simp [hx])) ((hasI_insI acc m s).2 (.inl hh))]
    exact atI_keep h hh
theorem fold_has {s : Int} (l : List S30) : ∀ acc : List S30, hasI (l.foldl insI acc) s = true ↔ hasI acc s = true ∨ hasI l s = true := by
  induction l with
  | nil => intro acc; simp [hasI, atI]
  | cons m l ih =>
    intro acc
    rw [List.foldl_cons, ih, hasI_insI, hasI_iff (m :: l)]
    constructor
    · rintro ((h | h) | h)
      · exact .inl h
      · exact .inr ⟨m, by simp, h.symm⟩
      · obtain ⟨y, hy, e⟩ := (hasI_iff _ _).1 h
        exact .inr ⟨y, by simp [hy], e⟩
    · rintro (h | ⟨y, hy, e⟩)
      · exact .inl (.inl h)
      · rcases List.mem_cons.1 hy with rfl | hy
        · exact .inl (.inr e.symm)
        · exact .inr ((hasI_iff _ _).2 ⟨y, hy, e⟩)
theorem fold_len (l : List S30) : ∀ acc : List S30, (l.foldl insI acc).length ≤ acc.length + l.length := by
  induction l with
  | nil => intro acc; simp
  | cons m l ih =>
    intro acc
    rw [List.foldl_cons, List.length_cons]
    have := ih (insI acc m)
    have := insI_length acc m
    omega
theorem fold_self (l : List S30) : ∀ (p : Int) (acc : List S30), okFrom p l = true → (∀ x ∈ acc, x.f0 ≤ p) → l.foldl insI acc = acc ++ l := by
  induction l with
  | nil => intro p acc _ _; simp
  | cons m l ih =>
    intro p acc h ha
    obtain ⟨h1, h2, h3⟩ := okFrom_cons.1 h
    have e := insI_app acc [] m (fun x hx => by have := ha x hx; omega)
    rw [List.append_nil] at e
    have e2 : insI [] m = [m] := rfl
    rw [List.foldl_cons, e, e2, ih m.f0 _ h3 (fun x hx => by
      rcases List.mem_append.1 hx with hx | hx
      · have := ha x hx; omega
      · rw [List.mem_singleton.1 hx]; exact Int.le_refl _)]
    simp
theorem okFrom_asc {l : List S30} : ∀ {p : Int}, okFrom p l = true → (l.map (fun m => m.f0)).Pairwise (· < ·) := by
  induction l with
  | nil => intro p _; exact List.Pairwise.nil
  | cons x l ih =>
    intro p h
    obtain ⟨h1, h2, h3⟩ := okFrom_cons.1 h
    rw [List.map_cons, List.pairwise_cons]
    refine ⟨fun y hy => ?_, ih h3⟩
    obtain ⟨z, hz, e⟩ := List.mem_map.1 hy
    rw [← e]; exact okFrom_gt h3 z hz
theorem seqs_l0 (l : List S30) (hl : l.length ≤ 1000000) (d : Nat) : ∀ (i : Nat) (acc : List Int), l.length - i = d → i ≤ l.length → acc.length + d ≤ 1000000 → Gets (fun k => laws_seqs.l0 k l acc (i : Int)) (· = acc ++ (l.drop i).map (fun m => m.f0)) := by
  induction d with
  | zero =>
    intro i acc hd hi ha
    refine Gets.step (fun k => laws_seqs.l0.eq_2 ..) (Gets.neg (by omega) (Gets.ret ?_))
    rw [List.drop_eq_nil_of_le (by omega)]; simp
  | succ d ih =>
    intro i acc hd hi ha
    have hil : i < l.length := by omega
    refine Gets.step (fun k => laws_seqs.l0.eq_2 ..) (Gets.pos (by omega) (Gets.pos (by omega) (Gets.pos (by omega) ?_)))
    rw [rdI_get (l := l) (i := (i : Int)) (by simpa using hil)]
    simp only [Int.toNat_natCast]
    rw [wrapId (by omega) (by omega), show (i : Int) + 1 = ((i + 1 : Nat) : Int) by omega]
    refine (ih (i + 1) (acc ++ [l[i].f0]) (by omega) (by omega) (by simp; omega)).mono (fun r hr => ?_)
    rw [hr, List.drop_eq_getElem_cons hil, List.map_cons, List.append_assoc]; rfl
theorem seqsI (l : List S30) (hl : l.length ≤ 1000000) : Gets (fun k => laws_seqs.f k l) (· = l.map (fun m => m.f0)) := by
  have := seqs_l0 l hl l.length 0 [] (by omega) (by omega) (by simp; omega)
  rw [List.drop_zero, List.nil_append] at this
  exact this
theorem mem_seqs {l : List S30} {s : Int} : s ∈ l.map (fun m => m.f0) ↔ hasI l s = true := by
  rw [hasI_iff, List.mem_map]
theorem unions_end (a b u : List S30) (ha : okFrom 0 a = true) (h1 : a.length ≤ 9) (h2 : b.length ≤ 9) (hu : u.length ≤ a.length + b.length) (hb : ∀ x ∈ b, hasI u x.f0 = true) (d : Nat) : ∀ i : Nat, b.length - i = d → i ≤ b.length → Gets (fun k => laws_FnUnions.l1 k a b u (i : Int)) (· = true) := by
  induction d with
  | zero =>
    intro i hd hi
    refine Gets.step (fun k => laws_FnUnions.l1.eq_2 ..) (Gets.neg (by omega) ?_)
    rw [wrapId (by omega) (by omega)]
    have e1 : uniT [a] = a := by
      unfold uniT
      rw [List.foldl_cons, List.foldl_nil]
      unfold uniL
      rw [if_pos ha, fold_self a 0 [] ha (by simp)]; simp
    have g1 := (implUnion [a] (by simp) (fun l hl => by rw [List.mem_singleton.1 hl]; omega)).ev
    rw [e1] at g1
    have g2 := (implUnion [] (by simp) (fun l hl => by cases hl)).ev
    refine Gets.pos (by omega) (Gets.bindE g1 (Gets.bindE (sameItems_true a (by omega)).ev (Gets.pos rfl (Gets.bindE g2 (Gets.ret rfl)))))
  | succ d ih =>
    intro i hd hi
    have hil : i < b.length := by omega
    refine Gets.step (fun k => laws_FnUnions.l1.eq_2 ..) (Gets.pos (by omega) (Gets.pos (by omega) ?_))
    rw [rdI_get (l := b) (i := (i : Int)) (by simpa using hil)]
    simp only [Int.toNat_natCast]
    refine Gets.bindE (implItemAt u _ (by omega)).ev (Gets.pos (hb b[i] (List.getElem_mem hil)) ?_)
    rw [wrapId (by omega) (by omega), show (i : Int) + 1 = ((i + 1 : Nat) : Int) by omega]
    exact ih (i + 1) (by omega) (by omega)
theorem unions_l0 (a b u : List S30) (ha : okFrom 0 a = true) (h1 : a.length ≤ 9) (h2 : b.length ≤ 9) (hu : u.length ≤ a.length + b.length) (hb : ∀ x ∈ b, hasI u x.f0 = true) (hx : ∀ x ∈ a, atI x.f0 u = (x.f0, x.f1, x.f2, x.f3, true)) (d : Nat) : ∀ i : Nat, a.length - i = d → i ≤ a.length → Gets (fun k => laws_FnUnions.l0 k a b u (i : Int)) (· = true) := by
  induction d with
  | zero =>
    intro i hd hi
    exact Gets.step (fun k => laws_FnUnions.l0.eq_2 ..) (Gets.neg (by omega) (unions_end a b u ha h1 h2 hu hb b.length 0 (by omega) (by omega)))
  | succ d ih =>
    intro i hd hi
    have hil : i < a.length := by omega
    refine Gets.step (fun k => laws_FnUnions.l0.eq_2 ..) (Gets.pos (by omega) (Gets.pos (by omega) ?_))
    rw [rdI_get (l := a) (i := (i : Int)) (by simpa using hil)]
    simp only [Int.toNat_natCast]
    refine Gets.bindE (implItemAt u _ (by omega)).ev ?_
    rw [hx a[i] (List.getElem_mem hil)]
    refine Gets.pos rfl (Gets.neg (by simp) ?_)
    rw [wrapId (by omega) (by omega), show (i : Int) + 1 = ((i + 1 : Nat) : Int) by omega]
    exact ih (i + 1) (by omega) (by omega)
theorem FnUnions : Stat.FnUnions := by
  intro l _
  refine Gets.rounds ?_
  unfold laws_FnUnions.f laws_big.f
  simp only [Option.bind_some]
  refine Gets.ite (fun _ => Gets.ret rfl) (fun h => ?_)
  have hl : l.length ≤ 1048576 := by
    rcases Nat.lt_or_ge 1048576 l.length with h1 | h1
    · exact absurd (decide_eq_true (by omega)) h
    · exact h1
  refine Gets.bind (dStores l hl) (fun r hr => ?_)
  obtain ⟨a, b⟩ := r
  obtain ⟨⟨a1, a2, _⟩, b1, b2, _⟩ := hr
  simp only at a1 a2 b1 b2 ⊢
  have e1 : ∀ x y : List S30, okFrom 0 x = true → okFrom 0 y = true → uniT [x, y] = y.foldl insI x := fun x y hx hy => by
    unfold uniT
    rw [List.foldl_cons, List.foldl_cons, List.foldl_nil]
    unfold uniL
    rw [if_pos hx, if_pos hy, fold_self x 0 [] hx (by simp)]; simp
  have g : ∀ x y : List S30, x.length ≤ 9 → y.length ≤ 9 → ∀ z ∈ [x, y], z.length ≤ 1048576 := fun x y hx hy z hz => by
    simp only [List.mem_cons, List.not_mem_nil, or_false] at hz
    rcases hz with rfl | rfl <;> omega
  have g1 := (implUnion [a, b] (by simp) (g a b a1 b1)).ev
  have g2 := (implUnion [b, a] (by simp) (g b a b1 a1)).ev
  rw [e1 a b a2 b2] at g1
  rw [e1 b a b2 a2] at g2
  have hU : okFrom 0 (b.foldl insI a) = true := ins_fold_ok b a a2 (okFrom_iB b2)
  have hV : okFrom 0 (a.foldl insI b) = true := ins_fold_ok a b b2 (okFrom_iB a2)
  have lU := fold_len b a
  have lV := fold_len a b
  have eS : (b.foldl insI a).map (fun m => m.f0) = (a.foldl insI b).map (fun m => m.f0) := asc_ext _ _ (okFrom_asc hU) (okFrom_asc hV) (fun x => by rw [mem_seqs, mem_seqs, fold_has, fold_has]; exact Or.comm)
  have hx : ∀ x ∈ a, atI x.f0 (b.foldl insI a) = (x.f0, x.f1, x.f2, x.f3, true) := fun x hx => by
    rw [fold_keep b a a2 (okFrom_iB b2) ((hasI_iff _ _).2 ⟨x, hx, rfl⟩)]
    exact atI_mem a2 hx
  have hb : ∀ x ∈ b, hasI (b.foldl insI a) x.f0 = true := fun x hx => (fold_has b a).2 (.inr ((hasI_iff _ _).2 ⟨x, hx, rfl⟩))
  have g3 := (seqsI (b.foldl insI a) (by omega)).ev
  have g4 := (seqsI (a.foldl insI b) (by omega)).ev
  rw [← eS] at g4
  refine Gets.bindE g1 (Gets.bindE g2 (Gets.bindE (implItemsOk _ (by omega)).ev (Gets.pos hU (Gets.bindE g3 (Gets.bindE g4 ?_)))))
  refine Gets.bindE (sameInts_true _ (by rw [List.length_map]; omega)).ev ?_
  refine Gets.step (fun k => laws_FnUnions.j0.eq_2 ..) (Gets.neg (by simp) ?_)
  exact unions_l0 a b _ a2 a1 b1 lU hb hx a.length 0 (by omega) (by omega)

end Go.Proofs.Ytfkhpenpdeknmaa.Pure
