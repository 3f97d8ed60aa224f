/- The program's RoadsOk and the reference's answer alike at every number of sites and list of roads, which stays as it was. -/
import Derived.Test.YtlnmiafahjddhaaStatFnExactRoadsOk
import Derived.Lib.Strings
set_option linter.unusedVariables false
set_option linter.unusedSimpArgs false
namespace Go.Proofs.Ytlnmiafahjddhaa.Pure
open Go.RowKit Go.Proofs.Ytlnmiafahjddhaa.PFnExactRoadsOk Go.Proofs.YtlnmiafahjddhaaW.PrintWords Go.Proofs.YtlnmiafahjddhaaW.PrintLast

/-! ### plain words: from some number of rounds on -/
def Gets {α : Type} (f : Nat → Option α) (Q : α → Prop) : Prop := ∃ r, Ev f r ∧ Q r
theorem Gets.ret {α : Type} {Q : α → Prop} {r : α} (h : Q r) : Gets (fun _ => some r) Q := ⟨r, Ev.now r, h⟩
theorem Gets.none {α : Type} {Q : α → Prop} (h : False) : Gets (fun _ => (Option.none : Option α)) Q := h.elim
theorem Gets.step {α : Type} {g f : Nat → Option α} {Q : α → Prop} (h : ∀ k, g (k + 1) = f k) (k : Gets f Q) : Gets g Q := by
  obtain ⟨r, hr, hq⟩ := k
  exact ⟨r, Ev.step h hr, hq⟩
theorem Ev.ite {α : Type} {c : Prop} [Decidable c] {f g : Nat → Option α} {r : α} (h : c → Ev f r) (k : ¬ c → Ev g r) : Ev (fun n => if c then f n else g n) r := by
  by_cases hc : c
  · simp only [hc, if_true]; exact h hc
  · simp only [hc, if_false]; exact k hc
theorem Gets.ite {α : Type} {c : Prop} [Decidable c] {f g : Nat → Option α} {Q : α → Prop} (h : c → Gets f Q) (k : ¬ c → Gets g Q) : Gets (fun n => if c then f n else g n) Q := by
  by_cases hc : c
  · simp only [hc, if_true]; exact h hc
  · simp only [hc, if_false]; exact k hc
theorem Gets.pos {α : Type} {c : Prop} [Decidable c] {f g : Nat → Option α} {Q : α → Prop} (hc : c) (h : Gets f Q) : Gets (fun n => if c then f n else g n) Q := by
  simp only [hc, if_true]; exact h
theorem Gets.neg {α : Type} {c : Prop} [Decidable c] {f g : Nat → Option α} {Q : α → Prop} (hc : ¬ c) (h : Gets g Q) : Gets (fun n => if c then f n else g n) Q := by
  simp only [hc, if_false]; exact h
theorem Gets.bind {α β : Type} {g : Nat → Option α} {f : Nat → α → Option β} {P : α → Prop} {Q : β → Prop} (h : Gets g P) (k : ∀ a, P a → Gets (fun n => f n a) Q) : Gets (fun n => (g n).bind (f n)) Q := by
  obtain ⟨a, ha, hp⟩ := h
  obtain ⟨r, hr, hq⟩ := k a hp
  exact ⟨r, Ev.bind ha hr, hq⟩
theorem Gets.bindE {α β : Type} {g : Nat → Option α} {f : Nat → α → Option β} {a : α} {Q : β → Prop} (h : Ev g a) (k : Gets (fun n => f n a) Q) : Gets (fun n => (g n).bind (f n)) Q := by
  obtain ⟨r, hr, hq⟩ := k
  exact ⟨r, Ev.bind h hr, hq⟩
theorem Gets.mono {α : Type} {f : Nat → Option α} {P Q : α → Prop} (h : Gets f P) (k : ∀ a, P a → Q a) : Gets f Q := by
  obtain ⟨r, hr, hp⟩ := h
  exact ⟨r, hr, k r hp⟩
theorem Gets.rounds {α : Type} {f : Nat → Option α} {r : α} (h : Gets f (· = r)) : ∃ k, f k = some r := by
  obtain ⟨a, ha, rfl⟩ := h
  exact ha.rounds
theorem Gets.ev {α : Type} {f : Nat → Option α} {r : α} (h : Gets f (· = r)) : Ev f r := by
  obtain ⟨a, ha, rfl⟩ := h
  exact ha
theorem Ev.gets {α : Type} {f : Nat → Option α} {r : α} {Q : α → Prop} (h : Ev f r) (hq : Q r) : Gets f Q := ⟨r, h, hq⟩
theorem Gets.same {α : Type} {o : Option α} {Q : α → Prop} {r : α} (h : o = some r) (hq : Q r) : Gets (fun _ => o) Q := by
  subst h; exact Gets.ret hq
theorem wrapId {x : Int} (h0 : -9223372036854775808 ≤ x) (h1 : x ≤ 9223372036854775807) : wrap64 x = x := by
  unfold wrap64; omega
theorem i64_bd {n : Int} (h : (Lit.int .i64 n).wf = true) : -9223372036854775808 ≤ n ∧ n ≤ 9223372036854775807 := by
  have hm : IntKind.i64.min = -9223372036854775808 := rfl
  simp [Lit.wf, hm] at h
  exact h
theorem boolEq {a b : Bool} {P Q : Prop} (ha : a = true ↔ P) (hb : b = true ↔ Q) (h : P ↔ Q) : a = b := by
  rw [Bool.eq_iff_iff, ha, hb, h]
theorem tmod_nn {a b : Int} (h : 0 ≤ a) : Int.tmod a b = a % b := Int.tmod_eq_emod_of_nonneg h
theorem tdiv_nn {a b : Int} (h : 0 ≤ a) : Int.tdiv a b = a / b := Int.tdiv_eq_ediv_of_nonneg h

theorem inR (x a b : Int) : impl_inRange.f x a b = some (decide (a ≤ x ∧ x ≤ b)) := by
  unfold impl_inRange.f
  by_cases h : x ≥ a
  · rw [if_pos h]; simp [show a ≤ x from h]
  · rw [if_neg h]; simp [show ¬ a ≤ x from h]

theorem inS (x a b : Int) : spec_l01In.f x a b = some (decide (a ≤ x ∧ x ≤ b)) := by
  unfold spec_l01In.f
  by_cases h : x ≥ a
  · rw [if_pos h]; simp [show a ≤ x from h]
  · rw [if_neg h]; simp [show ¬ a ≤ x from h]

/-! ### rows of numbers -/
theorem rd_get {l : List Int} {i : Int} (h : i.toNat < l.length) : rd l i = l[i.toNat] := by
  unfold rd; rw [List.getD_eq_getElem?_getD, List.getElem?_eq_getElem h]; rfl
theorem fill_step {α : Type} (l : List α) (d : α) (i : Nat) (h : i < l.length) : (l.take i ++ List.replicate (l.length - i) d).set i l[i] = l.take (i + 1) ++ List.replicate (l.length - (i + 1)) d := by
  have e : List.replicate (l.length - i) d = d :: List.replicate (l.length - (i + 1)) d := by
    rw [show l.length - i = (l.length - (i + 1)) + 1 by omega]; rfl
  rw [e, List.set_append_right _ _ (by rw [List.length_take]; omega), List.length_take, show i - min i l.length = 0 by omega, List.set_cons_zero, List.take_succ_eq_append_getElem h, List.append_assoc]
  rfl
theorem drop_at {α : Type} (l : List α) (i : Nat) (h : i < l.length) : l.drop i = l[i] :: l.drop (i + 1) := List.drop_eq_getElem_cons h
def marks (k : Int) (n : Nat) : List Int := (List.range n).map (fun (i : Nat) => k + (i : Int))
theorem marks_length (k : Int) (n : Nat) : (marks k n).length = n := by simp [marks]
theorem marks_get (k : Int) (n i : Nat) (h : i < n) : (marks k n)[i]'(by rw [marks_length]; exact h) = k + i := by simp [marks]

def cvR (m : S96) : S94 := ⟨m.f0, m.f1, m.f2⟩
theorem rdR_get {l : List S94} {i : Int} (h : i.toNat < l.length) : rd_T94 l i = l[i.toNat] := by
  unfold rd_T94; rw [List.getD_eq_getElem?_getD, List.getElem?_eq_getElem h]; rfl
theorem rdRl_get {l : List S96} {i : Int} (h : i.toNat < l.length) : rd_T96 l i = l[i.toNat] := by
  unfold rd_T96; rw [List.getD_eq_getElem?_getD, List.getElem?_eq_getElem h]; rfl
/-- Right roads behind (pa, pb). -/
def roadsF (n : Int) : Int → Int → List S94 → Bool
  | _, _, [] => true
  | pa, pb, r :: l => decide ((0 ≤ r.f0 ∧ r.f0 < r.f1 ∧ r.f1 < n ∧ 1 ≤ r.f2 ∧ r.f2 ≤ 100) ∧ (pa < r.f0 ∨ (pa = r.f0 ∧ pb < r.f1))) && roadsF n r.f0 r.f1 l
theorem roadsF_cons (n pa pb : Int) (r : S94) (l : List S94) : roadsF n pa pb (r :: l) = (decide ((0 ≤ r.f0 ∧ r.f0 < r.f1 ∧ r.f1 < n ∧ 1 ≤ r.f2 ∧ r.f2 ≤ 100) ∧ (pa < r.f0 ∨ (pa = r.f0 ∧ pb < r.f1))) && roadsF n r.f0 r.f1 l) := rfl
def roadsB (n : Int) (l : List S94) : Bool := decide ((1 ≤ n ∧ n ≤ 6) ∧ (l.length : Int) ≤ 12) && roadsF n (-1) (-1) l

theorem implRoads_l0 (l : List S94) (n : Int) (hl : l.length ≤ 35184372088832) (hn : 1 ≤ n ∧ n ≤ 6) (d : Nat) : ∀ (i : Nat) (pa pb : Int), l.length - i = d → i ≤ l.length → (i = 0 → pa = -1 ∧ pb = -1) → (∀ h : 0 < i, ∀ h2 : i - 1 < l.length, pa = (l[i - 1]'h2).f0 ∧ pb = (l[i - 1]'h2).f1) → Gets (fun k => impl_RoadsOk.l0 k n l l (l.length : Int) (i : Int)) (· = roadsF n pa pb (l.drop i)) := by
  induction d with
  | zero =>
    intro i pa pb hd hi _ _
    refine Gets.step (fun k => impl_RoadsOk.l0.eq_2 ..) (Gets.neg (by omega) (Gets.ret ?_))
    rw [List.drop_of_length_le (by omega)]; rfl
  | succ d ih =>
    intro i pa pb hd hi hp0 hp1
    refine Gets.step (fun k => impl_RoadsOk.l0.eq_2 ..) (Gets.pos (by omega) (Gets.pos (by omega) (Gets.pos (by omega) ?_)))
    have e : rd_T94 l (i : Int) = l[i] := rdR_get (by omega)
    simp only [e, inR, Option.bind_some]
    rw [drop_at l i (by omega), roadsF_cons]
    have hi1 := ih (i + 1) l[i].f0 l[i].f1 (by omega) (by omega) (by omega) (fun _ h2 => ⟨by simp, by simp⟩)
    rw [show (((i + 1 : Nat)) : Int) = (i : Int) + 1 by omega] at hi1
    have hq : 0 < i → ∃ q : S94, rd_T94 l ((i : Int) - 1) = q ∧ pa = q.f0 ∧ pb = q.f1 := fun h => ⟨l[i - 1], by rw [rdR_get (by omega)]; congr 1; omega, (hp1 h (by omega)).1, (hp1 h (by omega)).2⟩
    generalize l[i] = r at e hi1 ⊢
    clear hp1 ih
    generalize hok : decide ((0 ≤ r.f0 ∧ r.f0 < r.f1 ∧ r.f1 < n ∧ 1 ≤ r.f2 ∧ r.f2 ≤ 100) ∧ (pa < r.f0 ∨ (pa = r.f0 ∧ pb < r.f1))) = ok
    have yes : ((0 ≤ r.f0 ∧ r.f0 < r.f1 ∧ r.f1 < n ∧ 1 ≤ r.f2 ∧ r.f2 ≤ 100) ∧ (pa < r.f0 ∨ (pa = r.f0 ∧ pb < r.f1))) → Gets (fun k => impl_RoadsOk.l0 k n l l (l.length : Int) (wrap64 ((i : Int) + 1))) (· = (ok && roadsF n r.f0 r.f1 (l.drop (i + 1)))) := fun h => by
      rw [wrapId (by omega) (by omega), ← hok, decide_eq_true h, Bool.true_and]; exact hi1
    have no : ¬ ((0 ≤ r.f0 ∧ r.f0 < r.f1 ∧ r.f1 < n ∧ 1 ≤ r.f2 ∧ r.f2 ≤ 100) ∧ (pa < r.f0 ∨ (pa = r.f0 ∧ pb < r.f1))) → Gets (fun _ => some false) (· = (ok && roadsF n r.f0 r.f1 (l.drop (i + 1)))) := fun h => by
      rw [← hok, decide_eq_false h]; exact Gets.ret rfl
    clear hok hi1
    have j3 : ∀ c : Bool, (c = true → ¬ ((0 ≤ r.f0 ∧ r.f0 < r.f1 ∧ r.f1 < n ∧ 1 ≤ r.f2 ∧ r.f2 ≤ 100) ∧ (pa < r.f0 ∨ (pa = r.f0 ∧ pb < r.f1)))) → (c = false → ((0 ≤ r.f0 ∧ r.f0 < r.f1 ∧ r.f1 < n ∧ 1 ≤ r.f2 ∧ r.f2 ≤ 100) ∧ (pa < r.f0 ∨ (pa = r.f0 ∧ pb < r.f1)))) → Gets (fun k => impl_RoadsOk.j3 k n l l (l.length : Int) (i : Int) c) (· = (ok && roadsF n r.f0 r.f1 (l.drop (i + 1)))) := fun c h1 h2 =>
      Gets.step (fun k => impl_RoadsOk.j3.eq_2 ..) (Gets.ite (fun h => no (h1 h)) (fun h => yes (h2 (by simpa using h))))
    have j2 : (0 ≤ r.f0 ∧ r.f0 < r.f1 ∧ r.f1 < n ∧ 1 ≤ r.f2 ∧ r.f2 ≤ 100) → Gets (fun k => impl_RoadsOk.j2 k n l (i : Int) l (l.length : Int) (i : Int) false r.f0 r.f1 r.f2) (· = (ok && roadsF n r.f0 r.f1 (l.drop (i + 1)))) := fun hr => by
      refine Gets.step (fun k => impl_RoadsOk.j2.eq_2 ..) (Gets.neg (by simp) ?_)
      refine Gets.ite (fun h => yes (by have := hp0 (by omega); omega)) (fun h => ?_)
      obtain ⟨q, e1, hqa, hqb⟩ := hq (by omega)
      rw [wrapId (x := (i : Int) - 1) (by omega) (by omega)]
      simp only [e1]
      refine Gets.pos (by omega) (Gets.pos (by omega) ?_)
      refine Gets.ite (fun h2 => j3 _ (fun _ => by omega) (by simp)) (fun h2 => Gets.ite (fun h3 => j3 _ (fun h4 => ?_) (fun h4 => ?_)) (fun h3 => j3 _ (by simp) (fun _ => by omega)))
      · have := of_decide_eq_true h4; omega
      · have := of_decide_eq_false h4; omega
    have j2t : ¬ (0 ≤ r.f0 ∧ r.f0 < r.f1 ∧ r.f1 < n ∧ 1 ≤ r.f2 ∧ r.f2 ≤ 100) → Gets (fun k => impl_RoadsOk.j2 k n l (i : Int) l (l.length : Int) (i : Int) true r.f0 r.f1 r.f2) (· = (ok && roadsF n r.f0 r.f1 (l.drop (i + 1)))) := fun hr =>
      Gets.step (fun k => impl_RoadsOk.j2.eq_2 ..) (Gets.pos rfl (no (fun h => hr h.1)))
    refine Gets.ite (fun h => j2t (by omega)) (fun h => Gets.ite (fun h => j2t (by omega)) (fun h => Gets.ite (fun h => j2t (by omega)) (fun h => ?_)))
    by_cases hc : 1 ≤ r.f2 ∧ r.f2 ≤ 100
    · simp only [decide_eq_true hc, Bool.not_true]; exact j2 (by omega)
    · simp only [decide_eq_false hc, Bool.not_false]; exact j2t (by omega)
theorem implRoads (l : List S94) (n : Int) (hl : l.length ≤ 35184372088832) : Gets (fun k => impl_RoadsOk.f k n l) (· = roadsB n l) := by
  unfold impl_RoadsOk.f roadsB
  simp only [inR, Option.bind_some, decide_eq_true_eq]
  have no : ∀ c, c = true → ¬ ((1 ≤ n ∧ n ≤ 6) ∧ (l.length : Int) ≤ 12) → Gets (fun k => impl_RoadsOk.j0 k n l c) (· = (decide ((1 ≤ n ∧ n ≤ 6) ∧ (l.length : Int) ≤ 12) && roadsF n (-1) (-1) l)) := fun c hc h =>
    Gets.step (fun k => impl_RoadsOk.j0.eq_2 ..) (Gets.pos hc (Gets.ret (by rw [decide_eq_false h]; rfl)))
  refine Gets.ite (fun h => ?_) (fun h => no _ rfl (fun h2 => h h2.1))
  by_cases h2 : (l.length : Int) ≤ 12
  · refine Gets.step (fun k => impl_RoadsOk.j0.eq_2 ..) (Gets.neg (by simp; omega) ?_)
    rw [decide_eq_true ⟨h, h2⟩, Bool.true_and]
    exact implRoads_l0 l n hl h l.length 0 (-1) (-1) (by omega) (by omega) (fun _ => ⟨rfl, rfl⟩) (fun h => by omega)
  · exact no _ (by simp; omega) (fun h3 => h2 h3.2)

theorem specRoads_l0 (l : List S94) (n : Int) (hl : l.length ≤ 35184372088832) (hn : 1 ≤ n ∧ n ≤ 6) (d : Nat) : ∀ (i : Nat) (pa pb : Int), l.length - i = d → i ≤ l.length → (i = 0 → pa = -1 ∧ pb = -1) → (∀ h : 0 < i, ∀ h2 : i - 1 < l.length, pa = (l[i - 1]'h2).f0 ∧ pb = (l[i - 1]'h2).f1) → Gets (fun k => spec_RoadsOk.l0 k n l (i : Int)) (· = roadsF n pa pb (l.drop i)) := by
  induction d with
  | zero =>
    intro i pa pb hd hi _ _
    refine Gets.step (fun k => spec_RoadsOk.l0.eq_2 ..) (Gets.neg (by omega) (Gets.ret ?_))
    rw [List.drop_of_length_le (by omega)]; rfl
  | succ d ih =>
    intro i pa pb hd hi hp0 hp1
    refine Gets.step (fun k => spec_RoadsOk.l0.eq_2 ..) (Gets.pos (by omega) (Gets.pos (by omega) ?_))
    have e : rd_T94 l (i : Int) = l[i] := rdR_get (by omega)
    have ew : wrap64 (n - 1) = n - 1 := wrapId (by omega) (by omega)
    simp only [e, inS, Option.bind_some, decide_eq_true_eq, ew]
    rw [drop_at l i (by omega), roadsF_cons]
    have hi1 := ih (i + 1) l[i].f0 l[i].f1 (by omega) (by omega) (by omega) (fun _ h2 => ⟨by simp, by simp⟩)
    rw [show (((i + 1 : Nat)) : Int) = (i : Int) + 1 by omega] at hi1
    have hq : 0 < i → ∃ q : S94, rd_T94 l ((i : Int) - 1) = q ∧ pa = q.f0 ∧ pb = q.f1 := fun h => ⟨l[i - 1], by rw [rdR_get (by omega)]; congr 1; omega, (hp1 h (by omega)).1, (hp1 h (by omega)).2⟩
    generalize l[i] = r at e hi1 ⊢
    clear hp1 ih
    generalize hok : decide ((0 ≤ r.f0 ∧ r.f0 < r.f1 ∧ r.f1 < n ∧ 1 ≤ r.f2 ∧ r.f2 ≤ 100) ∧ (pa < r.f0 ∨ (pa = r.f0 ∧ pb < r.f1))) = ok
    have j2 : ∀ c : Bool, (c = true → ¬ ((0 ≤ r.f0 ∧ r.f0 < r.f1 ∧ r.f1 < n ∧ 1 ≤ r.f2 ∧ r.f2 ≤ 100) ∧ (pa < r.f0 ∨ (pa = r.f0 ∧ pb < r.f1)))) → (c = false → ((0 ≤ r.f0 ∧ r.f0 < r.f1 ∧ r.f1 < n ∧ 1 ≤ r.f2 ∧ r.f2 ≤ 100) ∧ (pa < r.f0 ∨ (pa = r.f0 ∧ pb < r.f1)))) → Gets (fun k => spec_RoadsOk.j2 k n l (i : Int) c) (· = (ok && roadsF n r.f0 r.f1 (l.drop (i + 1)))) := fun c h1 h2 => by
      refine Gets.step (fun k => spec_RoadsOk.j2.eq_2 ..) (Gets.ite (fun h => Gets.ret ?_) (fun h => ?_))
      · rw [← hok, decide_eq_false (h1 h)]; rfl
      · rw [wrapId (by omega) (by omega), ← hok, decide_eq_true (h2 (by simpa using h)), Bool.true_and]; exact hi1
    clear hok hi1
    refine Gets.ite (fun h1 => Gets.ite (fun h2 => Gets.ite (fun h3 => j2 _ (fun _ => by omega) (by simp)) (fun h3 => Gets.ite (fun h4 => ?_) (fun h4 => j2 _ (fun _ => by omega) (by simp)))) (fun h2 => j2 _ (fun _ => by omega) (by simp))) (fun h1 => j2 _ (fun _ => by omega) (by simp))
    refine Gets.ite (fun h => ?_) (fun h => j2 _ (by simp) (fun _ => by have := hp0 (by omega); omega))
    obtain ⟨q, e1, hqa, hqb⟩ := hq (by omega)
    rw [wrapId (x := (i : Int) - 1) (by omega) (by omega)]
    simp only [e1]
    refine Gets.pos (by omega) (Gets.pos (by omega) ?_)
    refine Gets.ite (fun h5 => j2 _ (fun _ => by omega) (by simp)) (fun h5 => Gets.ite (fun h6 => j2 _ (fun h7 => ?_) (fun h7 => ?_)) (fun h6 => j2 _ (by simp) (fun _ => by omega)))
    · have := of_decide_eq_true h7; omega
    · have := of_decide_eq_false h7; omega
theorem specRoads (l : List S94) (n : Int) (hl : l.length ≤ 35184372088832) : Gets (fun k => spec_RoadsOk.f k n l) (· = roadsB n l) := by
  unfold spec_RoadsOk.f roadsB
  simp only [inS, Option.bind_some, decide_eq_true_eq]
  have no : ∀ c, c = true → ¬ ((1 ≤ n ∧ n ≤ 6) ∧ (l.length : Int) ≤ 12) → Gets (fun k => spec_RoadsOk.j0 k n l c) (· = (decide ((1 ≤ n ∧ n ≤ 6) ∧ (l.length : Int) ≤ 12) && roadsF n (-1) (-1) l)) := fun c hc h =>
    Gets.step (fun k => spec_RoadsOk.j0.eq_2 ..) (Gets.pos hc (Gets.ret (by rw [decide_eq_false h]; rfl)))
  refine Gets.ite (fun h => ?_) (fun h => no _ rfl (fun h2 => h h2.1))
  by_cases h2 : (l.length : Int) ≤ 12
  · refine Gets.step (fun k => spec_RoadsOk.j0.eq_2 ..) (Gets.neg (by simp; omega) ?_)
    rw [decide_eq_true ⟨h, h2⟩, Bool.true_and]
    exact specRoads_l0 l n hl h l.length 0 (-1) (-1) (by omega) (by omega) (fun _ => ⟨rfl, rfl⟩) (fun h => by omega)
  · exact no _ (by simp; omega) (fun h3 => h2 h3.2)

theorem szRoadS (l : List S96) (m : Int) (hm : 0 ≤ m ∧ m ≤ 9000000) (hl : l.length ≤ maxLen) : laws_szRoadS.f l m = some (if m - l.length < 0 then -1 else m - l.length) := by
  unfold maxLen at hl
  unfold laws_szRoadS.f
  rw [wrapId (by omega) (by omega)]
  split <;> rfl

theorem toRoadS_l0 (l : List S96) (hl : l.length ≤ 11728124029610) (d : Nat) : ∀ i : Nat, l.length - i = d → i ≤ l.length → Gets (fun k => laws_toRoadS.l0 k l ((l.map cvR).take i ++ List.replicate ((l.map cvR).length - i) z94) (i : Int)) (· = l.map cvR) := by
  induction d with
  | zero =>
    intro i hd hi
    refine Gets.step (fun k => laws_toRoadS.l0.eq_2 ..) (Gets.neg (by omega) (Gets.ret ?_))
    rw [List.take_of_length_le (by simp; omega), show (l.map cvR).length - i = 0 by simp; omega]
    simp
  | succ d ih =>
    intro i hd hi
    refine Gets.step (fun k => laws_toRoadS.l0.eq_2 ..) (Gets.pos (by omega) (Gets.pos (by omega) ?_))
    simp only [laws_toRoad.f, Option.bind_some]
    refine Gets.pos (by simp; omega) ?_
    rw [rdRl_get (by omega), wrapId (by omega) (by omega)]
    simp only [Int.toNat_natCast]
    have e : (⟨l[i].f0, l[i].f1, l[i].f2⟩ : S94) = (l.map cvR)[i]'(by simp; omega) := by simp [cvR]
    rw [e, fill_step (l.map cvR) z94 i (by simp; omega), show ((i : Int) + 1) = ((i + 1 : Nat) : Int) by omega]
    exact ih (i + 1) (by omega) (by omega)
theorem toRoadS (l : List S96) (hl : l.length ≤ 11728124029610) : Gets (fun k => laws_toRoadS.f k l) (· = l.map cvR) := by
  unfold laws_toRoadS.f
  refine Gets.pos (by omega) (Gets.pos (by omega) ?_)
  have h := toRoadS_l0 l hl l.length 0 (by omega) (by omega)
  simpa using h

theorem eqRoad (m n : S94) : laws_eqRoad.f m.f0 m.f1 m.f2 n.f0 n.f1 n.f2  = some true ↔ m = n := by
  unfold laws_eqRoad.f
  constructor
  · intro h
    repeat' (split at h)
    all_goals (first | (cases h; done) | skip)
    rename_i h0 h1 h2
    cases m; cases n
    simp only at h0 h1 h2
    subst h0 h1 h2
    rfl
  · rintro rfl
    simp
theorem eqRoad_some (m n : S94) : ∃ b, laws_eqRoad.f m.f0 m.f1 m.f2 n.f0 n.f1 n.f2  = some b := by
  unfold laws_eqRoad.f
  repeat' split
  all_goals exact ⟨_, rfl⟩
theorem eqRoad_gets (m n : S94) : Gets (fun _ => laws_eqRoad.f m.f0 m.f1 m.f2 n.f0 n.f1 n.f2 ) (fun b => b = true ↔ m = n) := by
  obtain ⟨b, hb⟩ := eqRoad_some m n
  refine Gets.same hb ?_
  rw [← eqRoad m n, hb]
  simp
theorem eqRoadS_l0 (a b : List S94) (ha : a.length ≤ 35184372088832) (hab : a.length = b.length) (d : Nat) : ∀ i : Nat, a.length - i = d → i ≤ a.length → Gets (fun k => laws_eqRoadS.l0 k a b (i : Int)) (fun r => r = true ↔ a.drop i = b.drop i) := by
  induction d with
  | zero =>
    intro i hd hi
    refine Gets.step (fun k => laws_eqRoadS.l0.eq_2 ..) (Gets.neg (by omega) (Gets.ret ?_))
    rw [List.drop_of_length_le (by omega), List.drop_of_length_le (by omega)]
    simp
  | succ d ih =>
    intro i hd hi
    refine Gets.step (fun k => laws_eqRoadS.l0.eq_2 ..) (Gets.pos (by omega) (Gets.pos (by omega) (Gets.pos (by omega) ?_)))
    rw [rdR_get (by omega), rdR_get (by omega), wrapId (by omega) (by omega)]
    simp only [Int.toNat_natCast]
    rw [drop_at a i (by omega), drop_at b i (by omega)]
    refine Gets.bind (eqRoad_gets _ _) (fun t ht => ?_)
    refine Gets.ite (fun h => ?_) (fun h => Gets.ret ?_)
    · rw [show ((i : Int) + 1) = ((i + 1 : Nat) : Int) by omega]
      refine (ih (i + 1) (by omega) (by omega)).mono (fun r hr => ?_)
      rw [hr]
      simp only [List.cons.injEq, ht.1 h, true_and]
    · have hne : ¬ a[i] = b[i] := fun e => h (ht.2 e)
      simp only [List.cons.injEq, hne, false_and, Bool.false_eq_true]
theorem eqRoadS (a b : List S94) (ha : a.length ≤ 35184372088832) : Gets (fun k => laws_eqRoadS.f k a b) (fun r => r = true ↔ a = b) := by
  unfold laws_eqRoadS.f
  refine Gets.ite (fun h => ?_) (fun h => Gets.ret ?_)
  · exact eqRoadS_l0 a b ha (by omega) a.length 0 (by omega) (by omega)
  · simp only [Bool.false_eq_true, false_iff]
    rintro rfl
    exact h rfl
theorem eqRoadS_true (a : List S94) (ha : a.length ≤ 35184372088832) : Gets (fun k => laws_eqRoadS.f k a a) (fun r => r = true) := (eqRoadS a a ha).mono (fun r hr => hr.2 rfl)

theorem FnExactRoadsOk : Stat.FnExactRoadsOk := by
  intro n l _ hl
  refine Gets.rounds ?_
  unfold laws_FnExactRoadsOk.f
  rw [szRoadS l _ (by omega) hl.1]
  simp only [Option.bind_some]
  have hn2 : (l.map cvR).length = l.length := by simp
  refine Gets.ite (fun _ => Gets.ret rfl) (fun h => ?_)
  have h0 : ¬ (1048576 : Int) - l.length < 0 := fun h1 => h (by rw [if_pos h1]; decide)
  refine Gets.bindE (toRoadS l (by omega)).ev (Gets.bindE (specRoads _ n (by omega)).ev (Gets.bindE (toRoadS l (by omega)).ev (Gets.bindE (implRoads _ n (by omega)).ev (Gets.neg (by simp) (Gets.bindE (toRoadS l (by omega)).ev ?_)))))
  exact Gets.bind (eqRoadS_true _ (by omega)) (fun t ht => Gets.pos ht (Gets.ret rfl))

end Go.Proofs.Ytlnmiafahjddhaa.Pure
