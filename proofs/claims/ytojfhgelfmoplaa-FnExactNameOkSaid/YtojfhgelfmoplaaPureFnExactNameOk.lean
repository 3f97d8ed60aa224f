/- The program's NameOk and the reference's answer alike at every text. -/
import Derived.Test.YtojfhgelfmoplaaPFnExactNameOkx1
set_option linter.unusedVariables false
set_option linter.unusedSimpArgs false
namespace Go.Proofs.Ytojfhgelfmoplaa.Pure
open Go.RowKit Go.Proofs.Ytojfhgelfmoplaa.PFnExactNameOk Go.Proofs.YtojfhgelfmoplaaW.PrintWords Go.Proofs.YtojfhgelfmoplaaW.PrintLast

/-! ### plain words: from some number of rounds on -/
def Gets {α : Type} (f : Nat → Option α) (Q : α → Prop) : Prop := ∃ r, Ev f r ∧ Q r
theorem Gets.ret {α : Type} {Q : α → Prop} {r : α} (h : Q r) : Gets (fun _ => some r) Q := ⟨r, Ev.now r, h⟩
theorem Gets.none {α : Type} {Q : α → Prop} (h : False) : Gets (fun _ => (Option.none : Option α)) Q := h.elim
theorem Gets.step {α : Type} {g f : Nat → Option α} {Q : α → Prop} (h : ∀ k, g (k + 1) = f k) (k : Gets f Q) : Gets g Q := by
  obtain ⟨r, hr, hq⟩ := k
  exact ⟨r, Ev.step h hr, hq⟩
theorem Ev.ite {α : Type} {c : Prop} [Decidable c] {f g : Nat → Option α} {r : α} (h : c → Ev f r) (k : ¬ c → Ev g r) : Ev (fun n => if c then f n else g n) r := by
  by_cases hc : c
  · simp only [hc, if_true]; exact h hc
  · simp only [hc, if_false]; exact k hc
theorem Gets.ite {α : Type} {c : Prop} [Decidable c] {f g : Nat → Option α} {Q : α → Prop} (h : c → Gets f Q) (k : ¬ c → Gets g Q) : Gets (fun n => if c then f n else g n) Q := by
  by_cases hc : c
  · simp only [hc, if_true]; exact h hc
  · simp only [hc, if_false]; exact k hc
theorem Gets.pos {α : Type} {c : Prop} [Decidable c] {f g : Nat → Option α} {Q : α → Prop} (hc : c) (h : Gets f Q) : Gets (fun n => if c then f n else g n) Q := by
  simp only [hc, if_true]; exact h
theorem Gets.neg {α : Type} {c : Prop} [Decidable c] {f g : Nat → Option α} {Q : α → Prop} (hc : ¬ c) (h : Gets g Q) : Gets (fun n => if c then f n else g n) Q := by
  simp only [hc, if_false]; exact h
theorem Gets.bind {α β : Type} {g : Nat → Option α} {f : Nat → α → Option β} {P : α → Prop} {Q : β → Prop} (h : Gets g P) (k : ∀ a, P a → Gets (fun n => f n a) Q) : Gets (fun n => (g n).bind (f n)) Q := by
  obtain ⟨a, ha, hp⟩ := h
  obtain ⟨r, hr, hq⟩ := k a hp
  exact ⟨r, Ev.bind ha hr, hq⟩
theorem Gets.bindE {α β : Type} {g : Nat → Option α} {f : Nat → α → Option β} {a : α} {Q : β → Prop} (h : Ev g a) (k : Gets (fun n => f n a) Q) : Gets (fun n => (g n).bind (f n)) Q := by
  obtain ⟨r, hr, hq⟩ := k
  exact ⟨r, Ev.bind h hr, hq⟩
theorem Gets.mono {α : Type} {f : Nat → Option α} {P Q : α → Prop} (h : Gets f P) (k : ∀ a, P a → Q a) : Gets f Q := by
  obtain ⟨r, hr, hp⟩ := h
  exact ⟨r, hr, k r hp⟩
theorem Gets.rounds {α : Type} {f : Nat → Option α} {r : α} (h : Gets f (· = r)) : ∃ k, f k = some r := by
  obtain ⟨a, ha, rfl⟩ := h
  exact ha.rounds
theorem Gets.ev {α : Type} {f : Nat → Option α} {r : α} (h : Gets f (· = r)) : Ev f r := by
  obtain ⟨a, ha, rfl⟩ := h
  exact ha
theorem Ev.gets {α : Type} {f : Nat → Option α} {r : α} {Q : α → Prop} (h : Ev f r) (hq : Q r) : Gets f Q := ⟨r, h, hq⟩
theorem Gets.same {α : Type} {o : Option α} {Q : α → Prop} {r : α} (h : o = some r) (hq : Q r) : Gets (fun _ => o) Q := by
  subst h; exact Gets.ret hq
theorem wrapId {x : Int} (h0 : -9223372036854775808 ≤ x) (h1 : x ≤ 9223372036854775807) : wrap64 x = x := by
  unfold wrap64; omega
theorem i64_bd {n : Int} (h : (Lit.int .i64 n).wf = true) : -9223372036854775808 ≤ n ∧ n ≤ 9223372036854775807 := by
  have hm : IntKind.i64.min = -9223372036854775808 := rfl
  simp [Lit.wf, hm] at h
  exact h
theorem boolEq {a b : Bool} {P Q : Prop} (ha : a = true ↔ P) (hb : b = true ↔ Q) (h : P ↔ Q) : a = b := by
  rw [Bool.eq_iff_iff, ha, hb, h]
theorem tmod_nn {a b : Int} (h : 0 ≤ a) : Int.tmod a b = a % b := Int.tmod_eq_emod_of_nonneg h
theorem tdiv_nn {a b : Int} (h : 0 ≤ a) : Int.tdiv a b = a / b := Int.tdiv_eq_ediv_of_nonneg h

def okAt (s : ByteArray) (j : Int) : Prop := (97 ≤ bt s j ∧ bt s j ≤ 122) ∨ (j ≠ 0 ∧ 48 ≤ bt s j ∧ bt s j ≤ 57)
def nameP (s : ByteArray) : Prop := (∀ j : Int, 0 ≤ j → j < s.size → okAt s j) ∧ 1 ≤ s.size ∧ s.size ≤ 12
theorem implName_l0 (s : ByteArray) (hs : s.size ≤ 140737488351232) (d : Nat) : ∀ i : Int, 0 ≤ i → (s.size : Int) - i = d →
    Gets (fun k => impl_NameOk.l0 k s i) (fun b => b = true ↔ (∀ j : Int, i ≤ j → j < s.size → okAt s j) ∧ 1 ≤ s.size ∧ s.size ≤ 12) := by
  induction d with
  | zero =>
    intro i h0 hd
    refine Gets.step (fun k => impl_NameOk.l0.eq_2 ..) ?_
    refine Gets.neg (by omega) ?_
    unfold impl_inRange.f
    refine Gets.bind (P := fun b => b = true ↔ 1 ≤ s.size ∧ s.size ≤ 12) ?_ (fun a ha => Gets.ret ?_)
    · refine Gets.ite (fun h => Gets.ret ?_) (fun h => Gets.ret ?_)
      · simp; omega
      · simp; omega
    · rw [ha]
      exact ⟨fun h => ⟨fun j h1 h2 => by omega, h⟩, fun h => h.2⟩
  | succ d ih =>
    intro i h0 hd
    refine Gets.step (fun k => impl_NameOk.l0.eq_2 ..) ?_
    refine Gets.pos (by omega) (Gets.pos h0 ?_)
    have hi := ih (i + 1) (by omega) (by omega)
    rw [wrapId (by omega) (by omega)]
    have yes : okAt s i → Gets (fun k => impl_NameOk.l0 k s (i + 1)) (fun b => b = true ↔ (∀ j : Int, i ≤ j → j < s.size → okAt s j) ∧ 1 ≤ s.size ∧ s.size ≤ 12) := fun ho => hi.mono (fun b hb => by
      rw [hb]
      refine ⟨fun h => ⟨fun j h1 h2 => ?_, h.2⟩, fun h => ⟨fun j h1 h2 => h.1 j (by omega) h2, h.2⟩⟩
      by_cases e : j = i
      · subst e; exact ho
      · exact h.1 j (by omega) h2)
    have no : ¬ okAt s i → Gets (fun _ => some false) (fun b => b = true ↔ (∀ j : Int, i ≤ j → j < s.size → okAt s j) ∧ 1 ≤ s.size ∧ s.size ≤ 12) := fun ho => Gets.ret (by
      simp only [Bool.false_eq_true, false_iff]
      exact fun h => ho (h.1 i (by omega) (by omega)))
    unfold okAt at yes no
    repeat' (first | refine Gets.ite (fun h => ?_) (fun h => ?_) | exact yes (by omega) | exact no (by omega))
theorem implName (s : ByteArray) (hs : s.size ≤ 140737488351232) : Gets (fun k => impl_NameOk.f k s) (fun b => b = true ↔ nameP s) := by
  unfold impl_NameOk.f
  exact implName_l0 s hs s.size 0 (by omega) (by omega)

theorem specName_l0 (s : ByteArray) (hs : s.size ≤ 140737488351232) (h1 : 1 ≤ s.size) (h2 : s.size ≤ 12) (hl : 97 ≤ bt s 0 ∧ bt s 0 ≤ 122) (d : Nat) : ∀ i : Int, 0 ≤ i → (s.size : Int) - i = d →
    Gets (fun k => spec_NameOk.l0 k s i) (fun b => b = true ↔ (∀ j : Int, i ≤ j → j < s.size → okAt s j)) := by
  induction d with
  | zero =>
    intro i h0 hd
    refine Gets.step (fun k => spec_NameOk.l0.eq_2 ..) ?_
    refine Gets.neg (by omega) (Gets.ret ?_)
    simp only [true_iff]
    exact fun j h1 h2 => by omega
  | succ d ih =>
    intro i h0 hd
    refine Gets.step (fun k => spec_NameOk.l0.eq_2 ..) ?_
    refine Gets.pos (by omega) (Gets.pos h0 ?_)
    have hi := ih (i + 1) (by omega) (by omega)
    rw [wrapId (by omega) (by omega)]
    have yes : okAt s i → Gets (fun k => spec_NameOk.l0 k s (i + 1)) (fun b => b = true ↔ (∀ j : Int, i ≤ j → j < s.size → okAt s j)) := fun ho => hi.mono (fun b hb => by
      rw [hb]
      refine ⟨fun h => fun j h1 h2 => ?_, fun h => fun j h1 h2 => h j (by omega) h2⟩
      by_cases e : j = i
      · subst e; exact ho
      · exact h j (by omega) h2)
    have no : ¬ okAt s i → Gets (fun _ => some false) (fun b => b = true ↔ (∀ j : Int, i ≤ j → j < s.size → okAt s j)) := fun ho => Gets.ret (by
      simp only [Bool.false_eq_true, false_iff]
      exact fun h => ho (h i (by omega) (by omega)))
    have z : i = 0 → 97 ≤ bt s i ∧ bt s i ≤ 122 := fun e => by subst e; exact hl
    unfold okAt at yes no
    repeat' (first | refine Gets.ite (fun h => ?_) (fun h => ?_) | exact yes (by omega) | exact no (by omega))
theorem specName_j0 (s : ByteArray) (hs : s.size ≤ 140737488351232) (c : Bool) (hc : c = false → 1 ≤ s.size ∧ s.size ≤ 12 ∧ 97 ≤ bt s 0 ∧ bt s 0 ≤ 122) (hc2 : c = true → ¬ nameP s) : Gets (fun k => spec_NameOk.j0 k s c) (fun b => b = true ↔ nameP s) := by
  refine Gets.step (fun k => spec_NameOk.j0.eq_2 ..) ?_
  refine Gets.ite (fun h => Gets.ret ?_) (fun h => ?_)
  · simp only [Bool.false_eq_true, false_iff]; exact hc2 h
  · obtain ⟨h1, h2, h3⟩ := hc (by simpa using h)
    refine (specName_l0 s hs h1 h2 h3 s.size 0 (by omega) (by omega)).mono (fun b hb => ?_)
    rw [hb]
    exact ⟨fun h => ⟨h, h1, h2⟩, fun h => h.1⟩
theorem specName (s : ByteArray) (hs : s.size ≤ 140737488351232) : Gets (fun k => spec_NameOk.f k s) (fun b => b = true ↔ nameP s) := by
  unfold spec_NameOk.f spec_l01In.f
  have hz : nameP s → 97 ≤ bt s 0 ∧ bt s 0 ≤ 122 := fun h => by
    rcases h.1 0 (by omega) (by have := h.2.1; omega) with h | h
    · exact h
    · exact absurd rfl h.1
  have hq : nameP s → 1 ≤ s.size ∧ s.size ≤ 12 := fun h => h.2
  refine Gets.bind (P := fun b => b = true ↔ 1 ≤ s.size ∧ s.size ≤ 12) ?_ (fun a ha => ?_)
  · refine Gets.ite (fun h => Gets.ret ?_) (fun h => Gets.ret ?_)
    · simp; omega
    · simp; omega
  · refine Gets.ite (fun h => ?_) (fun h => ?_)
    · have hab := ha.1 h
      refine Gets.pos (by omega) ?_
      refine Gets.ite (fun h2 => ?_) (fun h2 => ?_)
      · exact specName_j0 s hs true (by simp) (fun _ hn => by have := hz hn; omega)
      · refine specName_j0 s hs _ (fun h3 => ?_) (fun h3 hn => ?_)
        · have h3 := of_decide_eq_false h3
          omega
        · have h3 := of_decide_eq_true h3
          have := hz hn; omega
    · exact specName_j0 s hs true (by simp) (fun _ hn => h (ha.2 (hq hn)))

theorem FnExactNameOk : laws_FnExactNameOk.Pure := by
  intro s hs
  refine Gets.rounds ?_
  unfold laws_FnExactNameOk.f
  refine Gets.ite (fun _ => Gets.ret rfl) (fun _ => ?_)
  refine Gets.bind (specName s hs) (fun a ha => Gets.bind (implName s hs) (fun b hb => ?_))
  have : b = a := boolEq hb ha Iff.rfl
  subst this
  exact Gets.neg (by simp) (Gets.ret rfl)

end Go.Proofs.Ytojfhgelfmoplaa.Pure
