/- The program's RingOk and the reference's answer alike at every ring, which stays as it was. -/
import Derived.Test.YtlnmiafahjddhaaStatFnExactRingOk
import Derived.Lib.Strings
set_option linter.unusedVariables false
set_option linter.unusedSimpArgs false
namespace Go.Proofs.Ytlnmiafahjddhaa.Pure
open Go.RowKit Go.Proofs.Ytlnmiafahjddhaa.PFnExactRingOk Go.Proofs.YtlnmiafahjddhaaW.PrintWords Go.Proofs.YtlnmiafahjddhaaW.PrintLast

/-! ### plain words: from some number of rounds on -/
def Gets {α : Type} (f : Nat → Option α) (Q : α → Prop) : Prop := ∃ r, Ev f r ∧ Q r
theorem Gets.ret {α : Type} {Q : α → Prop} {r : α} (h : Q r) : Gets (fun _ => some r) Q := ⟨r, Ev.now r, h⟩
theorem Gets.none {α : Type} {Q : α → Prop} (h : False) : Gets (fun _ => (Option.none : Option α)) Q := h.elim
theorem Gets.step {α : Type} {g f : Nat → Option α} {Q : α → Prop} (h : ∀ k, g (k + 1) = f k) (k : Gets f Q) : Gets g Q := by
  obtain ⟨r, hr, hq⟩ := k
  exact ⟨r, Ev.step h hr, hq⟩
theorem Ev.ite {α : Type} {c : Prop} [Decidable c] {f g : Nat → Option α} {r : α} (h : c → Ev f r) (k : ¬ c → Ev g r) : Ev (fun n => if c then f n else g n) r := by
  by_cases hc : c
  · simp only [hc, if_true]; exact h hc
  · simp only [hc, if_false]; exact k hc
theorem Gets.ite {α : Type} {c : Prop} [Decidable c] {f g : Nat → Option α} {Q : α → Prop} (h : c → Gets f Q) (k : ¬ c → Gets g Q) : Gets (fun n => if c then f n else g n) Q := by
  by_cases hc : c
  · simp only [hc, if_true]; exact h hc
  · simp only [hc, if_false]; exact k hc
theorem Gets.pos {α : Type} {c : Prop} [Decidable c] {f g : Nat → Option α} {Q : α → Prop} (hc : c) (h : Gets f Q) : Gets (fun n => if c then f n else g n) Q := by
  simp only [hc, if_true]; exact h
theorem Gets.neg {α : Type} {c : Prop} [Decidable c] {f g : Nat → Option α} {Q : α → Prop} (hc : ¬ c) (h : Gets g Q) : Gets (fun n => if c then f n else g n) Q := by
  simp only [hc, if_false]; exact h
theorem Gets.bind {α β : Type} {g : Nat → Option α} {f : Nat → α → Option β} {P : α → Prop} {Q : β → Prop} (h : Gets g P) (k : ∀ a, P a → Gets (fun n => f n a) Q) : Gets (fun n => (g n).bind (f n)) Q := by
  obtain ⟨a, ha, hp⟩ := h
  obtain ⟨r, hr, hq⟩ := k a hp
  exact ⟨r, Ev.bind ha hr, hq⟩
theorem Gets.bindE {α β : Type} {g : Nat → Option α} {f : Nat → α → Option β} {a : α} {Q : β → Prop} (h : Ev g a) (k : Gets (fun n => f n a) Q) : Gets (fun n => (g n).bind (f n)) Q := by
  obtain ⟨r, hr, hq⟩ := k
  exact ⟨r, Ev.bind h hr, hq⟩
theorem Gets.mono {α : Type} {f : Nat → Option α} {P Q : α → Prop} (h : Gets f P) (k : ∀ a, P a → Q a) : Gets f Q := by
  obtain ⟨r, hr, hp⟩ := h
  exact ⟨r, hr, k r hp⟩
theorem Gets.rounds {α : Type} {f : Nat → Option α} {r : α} (h : Gets f (· = r)) : ∃ k, f k = some r := by
  obtain ⟨a, ha, rfl⟩ := h
  exact ha.rounds
theorem Gets.ev {α : Type} {f : Nat → Option α} {r : α} (h : Gets f (· = r)) : Ev f r := by
  obtain ⟨a, ha, rfl⟩ := h
  exact ha
theorem Ev.gets {α : Type} {f : Nat → Option α} {r : α} {Q : α → Prop} (h : Ev f r) (hq : Q r) : Gets f Q := ⟨r, h, hq⟩
theorem Gets.same {α : Type} {o : Option α} {Q : α → Prop} {r : α} (h : o = some r) (hq : Q r) : Gets (fun _ => o) Q := by
  subst h; exact Gets.ret hq
theorem wrapId {x : Int} (h0 : -9223372036854775808 ≤ x) (h1 : x ≤ 9223372036854775807) : wrap64 x = x := by
  unfold wrap64; omega
theorem i64_bd {n : Int} (h : (Lit.int .i64 n).wf = true) : -9223372036854775808 ≤ n ∧ n ≤ 9223372036854775807 := by
  have hm : IntKind.i64.min = -9223372036854775808 := rfl
  simp [Lit.wf, hm] at h
  exact h
theorem boolEq {a b : Bool} {P Q : Prop} (ha : a = true ↔ P) (hb : b = true ↔ Q) (h : P ↔ Q) : a = b := by
  rw [Bool.eq_iff_iff, ha, hb, h]
theorem tmod_nn {a b : Int} (h : 0 ≤ a) : Int.tmod a b = a % b := Int.tmod_eq_emod_of_nonneg h
theorem tdiv_nn {a b : Int} (h : 0 ≤ a) : Int.tdiv a b = a / b := Int.tdiv_eq_ediv_of_nonneg h

/-! ### rows of numbers -/
theorem rd_get {l : List Int} {i : Int} (h : i.toNat < l.length) : rd l i = l[i.toNat] := by
  unfold rd; rw [List.getD_eq_getElem?_getD, List.getElem?_eq_getElem h]; rfl
theorem fill_step {α : Type} (l : List α) (d : α) (i : Nat) (h : i < l.length) : (l.take i ++ List.replicate (l.length - i) d).set i l[i] = l.take (i + 1) ++ List.replicate (l.length - (i + 1)) d := by
  have e : List.replicate (l.length - i) d = d :: List.replicate (l.length - (i + 1)) d := by
    rw [show l.length - i = (l.length - (i + 1)) + 1 by omega]; rfl
  rw [e, List.set_append_right _ _ (by rw [List.length_take]; omega), List.length_take, show i - min i l.length = 0 by omega, List.set_cons_zero, List.take_succ_eq_append_getElem h, List.append_assoc]
  rfl
theorem drop_at {α : Type} (l : List α) (i : Nat) (h : i < l.length) : l.drop i = l[i] :: l.drop (i + 1) := List.drop_eq_getElem_cons h
def marks (k : Int) (n : Nat) : List Int := (List.range n).map (fun (i : Nat) => k + (i : Int))
theorem marks_length (k : Int) (n : Nat) : (marks k n).length = n := by simp [marks]
theorem marks_get (k : Int) (n i : Nat) (h : i < n) : (marks k n)[i]'(by rw [marks_length]; exact h) = k + i := by simp [marks]

/-- Numbers in lo .. hi, ascending, above p. -/
def ascI (lo hi : Int) : Int → List Int → Bool
  | _, [] => true
  | p, x :: l => decide (lo ≤ x ∧ x ≤ hi) && (decide (p < x) && ascI lo hi x l)
theorem ascI_cons (lo hi p x : Int) (l : List Int) : ascI lo hi p (x :: l) = (decide (lo ≤ x ∧ x ≤ hi) && (decide (p < x) && ascI lo hi x l)) := rfl

theorem inR (x a b : Int) : impl_inRange.f x a b = some (decide (a ≤ x ∧ x ≤ b)) := by
  unfold impl_inRange.f
  by_cases h : x ≥ a
  · rw [if_pos h]; simp [show a ≤ x from h]
  · rw [if_neg h]; simp [show ¬ a ≤ x from h]

theorem implRing_l0 (a : Int) (lo_ : List Int) (hl : lo_.length ≤ 35184372088832) (d : Nat) : ∀ (i : Nat) (p : Int), lo_.length - i = d → i ≤ lo_.length → (i = 0 → p = 0) → (∀ h : 0 < i, ∀ h2 : i - 1 < lo_.length, p = lo_[i - 1]'h2) → Gets (fun k => impl_RingOk.l0 k lo_ (lo_.length : Int) (i : Int) a lo_) (· = (ascI 1 5 p (lo_.drop i) && true)) := by
  induction d with
  | zero =>
    intro i p hd hi _ _
    refine Gets.step (fun k => impl_RingOk.l0.eq_2 ..) (Gets.neg (by omega) ?_)
    rw [List.drop_of_length_le (by omega)]
    exact Gets.ret rfl
  | succ d ih =>
    intro i p hd hi hp0 hp1
    refine Gets.step (fun k => impl_RingOk.l0.eq_2 ..) (Gets.pos (by omega) (Gets.pos (by omega) (Gets.pos (by omega) ?_)))
    rw [rd_get (by omega), drop_at lo_ i (by omega)]
    simp only [impl_isDaemon.f, inR, Int.toNat_natCast, Option.bind_some]
    have hi1 := ih (i + 1) lo_[i] (by omega) (by omega) (by omega) (fun _ h2 => by simp)
    rw [show (((i + 1 : Nat)) : Int) = (i : Int) + 1 by omega] at hi1
    rw [wrapId (x := (i : Int) + 1) (by omega) (by omega)]
    rw [ascI_cons]
    refine Gets.ite (fun h => ?_) (fun h => Gets.ret ?_)
    · have hb := of_decide_eq_true h
      rw [h, Bool.true_and]
      refine Gets.ite (fun h1 => ?_) (fun h1 => ?_)
      · rw [wrapId (x := (i : Int) - 1) (by omega) (by omega)]
        refine Gets.pos (by omega) (Gets.pos (by omega) ?_)
        rw [rd_get (l := lo_) (i := (i : Int) - 1) (by omega)]
        have e := hp1 (by omega) (by omega)
        have e2 : (lo_[((i : Int) - 1).toNat]'(by omega)) = lo_[i - 1]'(by omega) := by congr 1; omega
        rw [e2, ← e]
        refine Gets.ite (fun h2 => Gets.ret ?_) (fun h2 => hi1.mono (fun r hr => ?_))
        · rw [decide_eq_false (show ¬ p < lo_[i] by omega)]; rfl
        · rw [hr, decide_eq_true (show p < lo_[i] by omega)]; rfl
      · refine hi1.mono (fun r hr => ?_)
        have hp := hp0 (by omega)
        rw [hr, decide_eq_true (show p < lo_[i] by omega)]; rfl
    · rw [Bool.eq_false_iff.2 h]; rfl
def ringB (a : Int) (l : List Int) : Bool := decide ((1 ≤ a ∧ a ≤ 9) ∧ (1 ≤ (l.length : Int) ∧ (l.length : Int) ≤ 5)) && ascI 1 5 0 l
theorem implRing (a : Int) (l : List Int) (hl : l.length ≤ 35184372088832) : Gets (fun k => impl_RingOk.f k a l) (· = ringB a l) := by
  unfold impl_RingOk.f ringB
  simp only [inR, Option.bind_some, decide_eq_true_eq]
  refine Gets.ite (fun h => ?_) (fun h => ?_)
  · refine Gets.step (fun k => impl_RingOk.j0.eq_2 ..) (Gets.ite (fun h2 => Gets.ret ?_) (fun h2 => ?_))
    · have h3 : ¬ (1 ≤ (l.length : Int) ∧ (l.length : Int) ≤ 5) := fun h4 => by rw [decide_eq_true h4] at h2; simp at h2
      rw [decide_eq_false (fun h4 => h3 h4.2)]; rfl
    · have h3 : 1 ≤ (l.length : Int) ∧ (l.length : Int) ≤ 5 := by simpa using h2
      have h4 := implRing_l0 a l hl l.length 0 0 (by omega) (by omega) (fun _ => rfl) (fun h => by omega)
      rw [decide_eq_true ⟨h, h3⟩, Bool.true_and]
      simpa using h4
  · refine Gets.step (fun k => impl_RingOk.j0.eq_2 ..) (Gets.pos rfl (Gets.ret ?_))
    rw [decide_eq_false (fun h4 => h h4.1)]; rfl

theorem inS (x a b : Int) : spec_l01In.f x a b = some (decide (a ≤ x ∧ x ≤ b)) := by
  unfold spec_l01In.f
  by_cases h : x ≥ a
  · rw [if_pos h]; simp [show a ≤ x from h]
  · rw [if_neg h]; simp [show ¬ a ≤ x from h]

theorem specRing_l0 (a : Int) (lo_ : List Int) (hl : lo_.length ≤ 35184372088832) (d : Nat) : ∀ (i : Nat) (p : Int), lo_.length - i = d → i ≤ lo_.length → (i = 0 → p = 0) → (∀ h : 0 < i, ∀ h2 : i - 1 < lo_.length, p = lo_[i - 1]'h2) → Gets (fun k => spec_RingOk.l0 k (i : Int) a lo_) (· = (ascI 1 5 p (lo_.drop i) && true)) := by
  induction d with
  | zero =>
    intro i p hd hi _ _
    refine Gets.step (fun k => spec_RingOk.l0.eq_2 ..) (Gets.neg (by omega) ?_)
    rw [List.drop_of_length_le (by omega)]
    exact Gets.ret rfl
  | succ d ih =>
    intro i p hd hi hp0 hp1
    refine Gets.step (fun k => spec_RingOk.l0.eq_2 ..) (Gets.pos (by omega) (Gets.pos (by omega) ?_))
    rw [rd_get (by omega), drop_at lo_ i (by omega)]
    simp only [inS, Int.toNat_natCast, Option.bind_some]
    have hi1 := ih (i + 1) lo_[i] (by omega) (by omega) (by omega) (fun _ h2 => by simp)
    rw [show (((i + 1 : Nat)) : Int) = (i : Int) + 1 by omega] at hi1
    rw [wrapId (x := (i : Int) + 1) (by omega) (by omega)]
    rw [ascI_cons]
    refine Gets.ite (fun h => ?_) (fun h => Gets.ret ?_)
    · have hb := of_decide_eq_true h
      rw [h, Bool.true_and]
      refine Gets.ite (fun h1 => ?_) (fun h1 => ?_)
      · rw [wrapId (x := (i : Int) - 1) (by omega) (by omega)]
        refine Gets.pos (by omega) (Gets.pos (by omega) ?_)
        rw [rd_get (l := lo_) (i := (i : Int) - 1) (by omega)]
        have e := hp1 (by omega) (by omega)
        have e2 : (lo_[((i : Int) - 1).toNat]'(by omega)) = lo_[i - 1]'(by omega) := by congr 1; omega
        rw [e2, ← e]
        refine Gets.ite (fun h2 => Gets.ret ?_) (fun h2 => hi1.mono (fun r hr => ?_))
        · rw [decide_eq_false (show ¬ p < lo_[i] by omega)]; rfl
        · rw [hr, decide_eq_true (show p < lo_[i] by omega)]; rfl
      · refine hi1.mono (fun r hr => ?_)
        have hp := hp0 (by omega)
        rw [hr, decide_eq_true (show p < lo_[i] by omega)]; rfl
    · rw [Bool.eq_false_iff.2 h]; rfl
theorem specRing (a : Int) (l : List Int) (hl : l.length ≤ 35184372088832) : Gets (fun k => spec_RingOk.f k a l) (· = ringB a l) := by
  unfold spec_RingOk.f ringB
  simp only [inS, Option.bind_some, decide_eq_true_eq]
  refine Gets.ite (fun h => ?_) (fun h => ?_)
  · refine Gets.step (fun k => spec_RingOk.j0.eq_2 ..) (Gets.ite (fun h2 => Gets.ret ?_) (fun h2 => ?_))
    · have h3 : ¬ (1 ≤ (l.length : Int) ∧ (l.length : Int) ≤ 5) := fun h4 => by rw [decide_eq_true h4] at h2; simp at h2
      rw [decide_eq_false (fun h4 => h3 h4.2)]; rfl
    · have h3 : 1 ≤ (l.length : Int) ∧ (l.length : Int) ≤ 5 := by simpa using h2
      have h4 := specRing_l0 a l hl l.length 0 0 (by omega) (by omega) (fun _ => rfl) (fun h => by omega)
      rw [decide_eq_true ⟨h, h3⟩, Bool.true_and]
      simpa using h4
  · refine Gets.step (fun k => spec_RingOk.j0.eq_2 ..) (Gets.pos rfl (Gets.ret ?_))
    rw [decide_eq_false (fun h4 => h h4.1)]; rfl

theorem szIntS (l : List Int) (m : Int) (hm : 0 ≤ m ∧ m ≤ 9000000) (hl : l.length ≤ maxLen) : laws_szIntS.f l m = some (if m - l.length < 0 then -1 else m - l.length) := by
  unfold maxLen at hl
  unfold laws_szIntS.f
  rw [wrapId (by omega) (by omega)]
  split <;> rfl

theorem toIntS_l0 (l : List Int) (hl : l.length ≤ 35184372088832) (d : Nat) : ∀ i : Nat, l.length - i = d → i ≤ l.length → Gets (fun k => laws_toIntS.l0 k l (l.take i ++ List.replicate (l.length - i) 0) (i : Int)) (· = l) := by
  induction d with
  | zero =>
    intro i hd hi
    refine Gets.step (fun k => laws_toIntS.l0.eq_2 ..) (Gets.neg (by omega) (Gets.ret ?_))
    rw [show i = l.length by omega]
    simp
  | succ d ih =>
    intro i hd hi
    refine Gets.step (fun k => laws_toIntS.l0.eq_2 ..) (Gets.pos (by omega) (Gets.pos (by omega) (Gets.pos (by simp; omega) ?_)))
    rw [rd_get (by omega), wrapId (by omega) (by omega)]
    simp only [Int.toNat_natCast]
    rw [fill_step l 0 i (by omega), show ((i : Int) + 1) = ((i + 1 : Nat) : Int) by omega]
    exact ih (i + 1) (by omega) (by omega)
theorem toIntS (l : List Int) (hl : l.length ≤ 35184372088832) : Gets (fun k => laws_toIntS.f k l) (· = l) := by
  unfold laws_toIntS.f
  refine Gets.pos (by omega) (Gets.pos (by omega) ?_)
  exact toIntS_l0 l hl l.length 0 (by omega) (by omega)

theorem eqIntS_l0 (a b : List Int) (ha : a.length ≤ 35184372088832) (hab : a.length = b.length) (d : Nat) : ∀ i : Nat, a.length - i = d → i ≤ a.length → Gets (fun k => laws_eqIntS.l0 k a b (i : Int)) (fun r => r = true ↔ a.drop i = b.drop i) := by
  induction d with
  | zero =>
    intro i hd hi
    refine Gets.step (fun k => laws_eqIntS.l0.eq_2 ..) (Gets.neg (by omega) (Gets.ret ?_))
    rw [List.drop_of_length_le (by omega), List.drop_of_length_le (by omega)]
    simp
  | succ d ih =>
    intro i hd hi
    refine Gets.step (fun k => laws_eqIntS.l0.eq_2 ..) (Gets.pos (by omega) (Gets.pos (by omega) (Gets.pos (by omega) ?_)))
    rw [rd_get (by omega), rd_get (by omega), wrapId (by omega) (by omega)]
    simp only [Int.toNat_natCast]
    rw [drop_at a i (by omega), drop_at b i (by omega)]
    refine Gets.ite (fun h => ?_) (fun h => Gets.ret ?_)
    · rw [show ((i : Int) + 1) = ((i + 1 : Nat) : Int) by omega]
      refine (ih (i + 1) (by omega) (by omega)).mono (fun r hr => ?_)
      rw [hr]
      simp only [List.cons.injEq, h, true_and]
    · simp only [List.cons.injEq, h, false_and, Bool.false_eq_true]
theorem eqIntS (a b : List Int) (ha : a.length ≤ 35184372088832) : Gets (fun k => laws_eqIntS.f k a b) (fun r => r = true ↔ a = b) := by
  unfold laws_eqIntS.f
  refine Gets.ite (fun h => ?_) (fun h => Gets.ret ?_)
  · exact eqIntS_l0 a b ha (by omega) a.length 0 (by omega) (by omega)
  · simp only [Bool.false_eq_true, false_iff]
    rintro rfl
    exact h rfl
theorem eqIntS_true (a : List Int) (ha : a.length ≤ 35184372088832) : Gets (fun k => laws_eqIntS.f k a a) (fun r => r = true) := (eqIntS a a ha).mono (fun r hr => hr.2 rfl)

theorem FnExactRingOk : Stat.FnExactRingOk := by
  intro a l _ hl
  refine Gets.rounds ?_
  unfold laws_FnExactRingOk.f laws_szRing.f laws_toRing.f
  rw [szIntS l _ (by omega) hl.1]
  simp only [Option.bind_some]
  by_cases h : (1048576 : Int) - l.length < 0
  · simp only [h, if_true]
    simp only [show ((-1 : Int) < 0) by decide, if_true, Option.bind_some]
    exact Gets.ret rfl
  · simp only [h, if_false, Option.bind_some]
    refine Gets.bindE (a := (a, l)) (Gets.bind (Q := (· = _)) (toIntS l (by omega)) (fun t ht => Gets.ret (by rw [ht]))).ev (Gets.bindE (specRing a l (by omega)).ev ?_)
    refine Gets.bindE (a := (a, l)) (Gets.bind (Q := (· = _)) (toIntS l (by omega)) (fun t ht => Gets.ret (by rw [ht]))).ev (Gets.bindE (implRing a l (by omega)).ev (Gets.neg (by simp) ?_))
    refine Gets.bindE (a := (a, l)) (Gets.bind (Q := (· = _)) (toIntS l (by omega)) (fun t ht => Gets.ret (by rw [ht]))).ev ?_
    unfold laws_eqRing.f
    refine Gets.bind (P := fun b => b = true) (Gets.pos rfl ?_) (fun t ht => Gets.pos ht (Gets.ret rfl))
    exact Gets.bind (eqIntS_true l (by omega)) (fun t ht => Gets.pos ht (Gets.ret rfl))

end Go.Proofs.Ytlnmiafahjddhaa.Pure
