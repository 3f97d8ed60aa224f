/- The program's Children and the reference's answer alike at every list and site; the list stays as it was, and the answer is new memory. -/
import Derived.Test.YtlnmiafahjddhaaStatFnExactChildren
import Derived.Lib.Strings
set_option linter.unusedVariables false
set_option linter.unusedSimpArgs false
namespace Go.Proofs.Ytlnmiafahjddhaa.Pure
open Go.RowKit Go.Proofs.Ytlnmiafahjddhaa.PFnExactChildren Go.Proofs.YtlnmiafahjddhaaW.PrintWords Go.Proofs.YtlnmiafahjddhaaW.PrintLast

/-! ### plain words: from some number of rounds on -/
def Gets {α : Type} (f : Nat → Option α) (Q : α → Prop) : Prop := ∃ r, Ev f r ∧ Q r
theorem Gets.ret {α : Type} {Q : α → Prop} {r : α} (h : Q r) : Gets (fun _ => some r) Q := ⟨r, Ev.now r, h⟩
theorem Gets.none {α : Type} {Q : α → Prop} (h : False) : Gets (fun _ => (Option.none : Option α)) Q := h.elim
theorem Gets.step {α : Type} {g f : Nat → Option α} {Q : α → Prop} (h : ∀ k, g (k + 1) = f k) (k : Gets f Q) : Gets g Q := by
  obtain ⟨r, hr, hq⟩ := k
  exact ⟨r, Ev.step h hr, hq⟩
theorem Ev.ite {α : Type} {c : Prop} [Decidable c] {f g : Nat → Option α} {r : α} (h : c → Ev f r) (k : ¬ c → Ev g r) : Ev (fun n => if c then f n else g n) r := by
  by_cases hc : c
  · simp only [hc, if_true]; exact h hc
  · simp only [hc, if_false]; exact k hc
theorem Gets.ite {α : Type} {c : Prop} [Decidable c] {f g : Nat → Option α} {Q : α → Prop} (h : c → Gets f Q) (k : ¬ c → Gets g Q) : Gets (fun n => if c then f n else g n) Q := by
  by_cases hc : c
  · simp only [hc, if_true]; exact h hc
  · simp only [hc, if_false]; exact k hc
theorem Gets.pos {α : Type} {c : Prop} [Decidable c] {f g : Nat → Option α} {Q : α → Prop} (hc : c) (h : Gets f Q) : Gets (fun n => if c then f n else g n) Q := by
  simp only [hc, if_true]; exact h
theorem Gets.neg {α : Type} {c : Prop} [Decidable c] {f g : Nat → Option α} {Q : α → Prop} (hc : ¬ c) (h : Gets g Q) : Gets (fun n => if c then f n else g n) Q := by
  simp only [hc, if_false]; exact h
theorem Gets.bind {α β : Type} {g : Nat → Option α} {f : Nat → α → Option β} {P : α → Prop} {Q : β → Prop} (h : Gets g P) (k : ∀ a, P a → Gets (fun n => f n a) Q) : Gets (fun n => (g n).bind (f n)) Q := by
  obtain ⟨a, ha, hp⟩ := h
  obtain ⟨r, hr, hq⟩ := k a hp
  exact ⟨r, Ev.bind ha hr, hq⟩
theorem Gets.bindE {α β : Type} {g : Nat → Option α} {f : Nat → α → Option β} {a : α} {Q : β → Prop} (h : Ev g a) (k : Gets (fun n => f n a) Q) : Gets (fun n => (g n).bind (f n)) Q := by
  obtain ⟨r, hr, hq⟩ := k
  exact ⟨r, Ev.bind h hr, hq⟩
theorem Gets.mono {α : Type} {f : Nat → Option α} {P Q : α → Prop} (h : Gets f P) (k : ∀ a, P a → Q a) : Gets f Q := by
  obtain ⟨r, hr, hp⟩ := h
  exact ⟨r, hr, k r hp⟩
theorem Gets.rounds {α : Type} {f : Nat → Option α} {r : α} (h : Gets f (· = r)) : ∃ k, f k = some r := by
  obtain ⟨a, ha, rfl⟩ := h
  exact ha.rounds
theorem Gets.ev {α : Type} {f : Nat → Option α} {r : α} (h : Gets f (· = r)) : Ev f r := by
  obtain ⟨a, ha, rfl⟩ := h
  exact ha
theorem Ev.gets {α : Type} {f : Nat → Option α} {r : α} {Q : α → Prop} (h : Ev f r) (hq : Q r) : Gets f Q := ⟨r, h, hq⟩
theorem Gets.same {α : Type} {o : Option α} {Q : α → Prop} {r : α} (h : o = some r) (hq : Q r) : Gets (fun _ => o) Q := by
  subst h; exact Gets.ret hq
theorem wrapId {x : Int} (h0 : -9223372036854775808 ≤ x) (h1 : x ≤ 9223372036854775807) : wrap64 x = x := by
  unfold wrap64; omega
theorem i64_bd {n : Int} (h : (Lit.int .i64 n).wf = true) : -9223372036854775808 ≤ n ∧ n ≤ 9223372036854775807 := by
  have hm : IntKind.i64.min = -9223372036854775808 := rfl
  simp [Lit.wf, hm] at h
  exact h
theorem boolEq {a b : Bool} {P Q : Prop} (ha : a = true ↔ P) (hb : b = true ↔ Q) (h : P ↔ Q) : a = b := by
  rw [Bool.eq_iff_iff, ha, hb, h]
theorem tmod_nn {a b : Int} (h : 0 ≤ a) : Int.tmod a b = a % b := Int.tmod_eq_emod_of_nonneg h
theorem tdiv_nn {a b : Int} (h : 0 ≤ a) : Int.tdiv a b = a / b := Int.tdiv_eq_ediv_of_nonneg h

/-! ### rows of numbers -/
theorem rd_get {l : List Int} {i : Int} (h : i.toNat < l.length) : rd l i = l[i.toNat] := by
  unfold rd; rw [List.getD_eq_getElem?_getD, List.getElem?_eq_getElem h]; rfl
theorem fill_step {α : Type} (l : List α) (d : α) (i : Nat) (h : i < l.length) : (l.take i ++ List.replicate (l.length - i) d).set i l[i] = l.take (i + 1) ++ List.replicate (l.length - (i + 1)) d := by
  have e : List.replicate (l.length - i) d = d :: List.replicate (l.length - (i + 1)) d := by
    rw [show l.length - i = (l.length - (i + 1)) + 1 by omega]; rfl
  rw [e, List.set_append_right _ _ (by rw [List.length_take]; omega), List.length_take, show i - min i l.length = 0 by omega, List.set_cons_zero, List.take_succ_eq_append_getElem h, List.append_assoc]
  rfl
theorem drop_at {α : Type} (l : List α) (i : Nat) (h : i < l.length) : l.drop i = l[i] :: l.drop (i + 1) := List.drop_eq_getElem_cons h
def marks (k : Int) (n : Nat) : List Int := (List.range n).map (fun (i : Nat) => k + (i : Int))
theorem marks_length (k : Int) (n : Nat) : (marks k n).length = n := by simp [marks]
theorem marks_get (k : Int) (n i : Nat) (h : i < n) : (marks k n)[i]'(by rw [marks_length]; exact h) = k + i := by simp [marks]

theorem toIntS_l0 (l : List Int) (hl : l.length ≤ 35184372088832) (d : Nat) : ∀ i : Nat, l.length - i = d → i ≤ l.length → Gets (fun k => laws_toIntS.l0 k l (l.take i ++ List.replicate (l.length - i) 0) (i : Int)) (· = l) := by
  induction d with
  | zero =>
    intro i hd hi
    refine Gets.step (fun k => laws_toIntS.l0.eq_2 ..) (Gets.neg (by omega) (Gets.ret ?_))
    rw [show i = l.length by omega]
    simp
  | succ d ih =>
    intro i hd hi
    refine Gets.step (fun k => laws_toIntS.l0.eq_2 ..) (Gets.pos (by omega) (Gets.pos (by omega) (Gets.pos (by simp; omega) ?_)))
    rw [rd_get (by omega), wrapId (by omega) (by omega)]
    simp only [Int.toNat_natCast]
    rw [fill_step l 0 i (by omega), show ((i : Int) + 1) = ((i + 1 : Nat) : Int) by omega]
    exact ih (i + 1) (by omega) (by omega)
theorem toIntS (l : List Int) (hl : l.length ≤ 35184372088832) : Gets (fun k => laws_toIntS.f k l) (· = l) := by
  unfold laws_toIntS.f
  refine Gets.pos (by omega) (Gets.pos (by omega) ?_)
  exact toIntS_l0 l hl l.length 0 (by omega) (by omega)

theorem eqIntS_l0 (a b : List Int) (ha : a.length ≤ 35184372088832) (hab : a.length = b.length) (d : Nat) : ∀ i : Nat, a.length - i = d → i ≤ a.length → Gets (fun k => laws_eqIntS.l0 k a b (i : Int)) (fun r => r = true ↔ a.drop i = b.drop i) := by
  induction d with
  | zero =>
    intro i hd hi
    refine Gets.step (fun k => laws_eqIntS.l0.eq_2 ..) (Gets.neg (by omega) (Gets.ret ?_))
    rw [List.drop_of_length_le (by omega), List.drop_of_length_le (by omega)]
    simp
  | succ d ih =>
    intro i hd hi
    refine Gets.step (fun k => laws_eqIntS.l0.eq_2 ..) (Gets.pos (by omega) (Gets.pos (by omega) (Gets.pos (by omega) ?_)))
    rw [rd_get (by omega), rd_get (by omega), wrapId (by omega) (by omega)]
    simp only [Int.toNat_natCast]
    rw [drop_at a i (by omega), drop_at b i (by omega)]
    refine Gets.ite (fun h => ?_) (fun h => Gets.ret ?_)
    · rw [show ((i : Int) + 1) = ((i + 1 : Nat) : Int) by omega]
      refine (ih (i + 1) (by omega) (by omega)).mono (fun r hr => ?_)
      rw [hr]
      simp only [List.cons.injEq, h, true_and]
    · simp only [List.cons.injEq, h, false_and, Bool.false_eq_true]
theorem eqIntS (a b : List Int) (ha : a.length ≤ 35184372088832) : Gets (fun k => laws_eqIntS.f k a b) (fun r => r = true ↔ a = b) := by
  unfold laws_eqIntS.f
  refine Gets.ite (fun h => ?_) (fun h => Gets.ret ?_)
  · exact eqIntS_l0 a b ha (by omega) a.length 0 (by omega) (by omega)
  · simp only [Bool.false_eq_true, false_iff]
    rintro rfl
    exact h rfl
theorem eqIntS_true (a : List Int) (ha : a.length ≤ 35184372088832) : Gets (fun k => laws_eqIntS.f k a a) (fun r => r = true) := (eqIntS a a ha).mono (fun r hr => hr.2 rfl)

theorem markIntS_l0 (n : Nat) (m : Int) (hn : n ≤ 35184372088832) (hm : 0 ≤ m ∧ m ≤ 35184372088832) (d : Nat) : ∀ (i : Nat) (l : List Int), n - i = d → i ≤ n → l.length = n → l.take i = marks m i → Gets (fun k => laws_markIntS.l0 k l (m + i) (i : Int)) (· = (m + n, marks m n)) := by
  induction d with
  | zero =>
    intro i l hd hi hl ht
    refine Gets.step (fun k => laws_markIntS.l0.eq_2 ..) (Gets.neg (by omega) (Gets.ret ?_))
    obtain rfl : i = n := by omega
    rw [List.take_of_length_le (by omega)] at ht
    rw [ht]
  | succ d ih =>
    intro i l hd hi hl ht
    refine Gets.step (fun k => laws_markIntS.l0.eq_2 ..) (Gets.pos (by omega) (Gets.pos (by omega) ?_))
    rw [wrapId (by omega) (by omega), wrapId (by omega) (by omega)]
    simp only [Int.toNat_natCast]
    rw [show ((i : Int) + 1) = ((i + 1 : Nat) : Int) by omega, show m + (i : Int) + 1 = m + ((i + 1 : Nat) : Int) by omega]
    refine ih (i + 1) _ (by omega) (by omega) (by simpa using hl) ?_
    have hlt : i < (l.set i (m + i)).length := by rw [List.length_set]; omega
    rw [List.take_succ_eq_append_getElem hlt, List.getElem_set_self, List.take_set_of_le (by omega), ht]
    simp [marks, List.range_succ]
theorem markIntS (l : List Int) (m : Int) (hn : l.length ≤ 35184372088832) (hm : 0 ≤ m ∧ m ≤ 35184372088832) : Gets (fun k => laws_markIntS.f k l m) (· = (m + l.length, marks m l.length)) := by
  unfold laws_markIntS.f
  have h := markIntS_l0 l.length m hn hm l.length 0 l (by omega) (by omega) rfl (by simp [marks])
  simpa using h
theorem heldIntS_l0 (n : Nat) (m : Int) (hn : n ≤ 35184372088832) (hm : 0 ≤ m ∧ m ≤ 35184372088832) (d : Nat) : ∀ (i : Nat), n - i = d → i ≤ n → Gets (fun k => laws_heldIntS.l0 k (marks m n) (m + i) (i : Int)) (· = m + n) := by
  induction d with
  | zero =>
    intro i hd hi
    refine Gets.step (fun k => laws_heldIntS.l0.eq_2 ..) (Gets.neg (by rw [marks_length]; omega) (Gets.ret ?_))
    rw [show i = n by omega]
  | succ d ih =>
    intro i hd hi
    refine Gets.step (fun k => laws_heldIntS.l0.eq_2 ..) (Gets.pos (by rw [marks_length]; omega) (Gets.pos (by omega) ?_))
    rw [rd_get (by rw [marks_length]; omega), wrapId (by omega) (by omega), wrapId (by omega) (by omega)]
    refine Gets.pos (by simp only [Int.toNat_natCast]; exact marks_get m n i (by omega)) ?_
    rw [show ((i : Int) + 1) = ((i + 1 : Nat) : Int) by omega, show m + (i : Int) + 1 = m + ((i + 1 : Nat) : Int) by omega]
    exact ih (i + 1) (by omega) (by omega)
theorem heldIntS (m : Int) (n : Nat) (hn : n ≤ 35184372088832) (hm : 0 ≤ m ∧ m ≤ 35184372088832) : Gets (fun k => laws_heldIntS.f k (marks m n) m) (· = m + n) := by
  unfold laws_heldIntS.f
  have h := heldIntS_l0 n m hn hm n 0 (by omega) (by omega)
  simpa using h

/-- The places from i on (i is where the list begins) at which x stands. -/
def kidsF (x : Int) : List Int → Int → List Int
  | [], _ => []
  | y :: l, i => if y = x then i :: kidsF x l (i + 1) else kidsF x l (i + 1)
theorem kidsF_length (x : Int) (l : List Int) : ∀ i, (kidsF x l i).length ≤ l.length := by
  induction l with
  | nil => intro i; simp [kidsF]
  | cons y l ih =>
    intro i
    have := ih (i + 1)
    unfold kidsF
    split <;> simp <;> omega
theorem implChildren_l0 (l : List Int) (x : Int) (hl : l.length ≤ 2000000) (d : Nat) : ∀ (i : Nat) (acc : List Int), l.length - i = d → i ≤ l.length → acc.length + d ≤ 2000000 → Gets (fun k => impl_Children.l0 k x acc l (l.length : Int) (i : Int)) (· = acc ++ kidsF x (l.drop i) i) := by
  induction d with
  | zero =>
    intro i acc hd hi ha
    refine Gets.step (fun k => impl_Children.l0.eq_2 ..) (Gets.neg (by omega) (Gets.ret ?_))
    rw [List.drop_of_length_le (by omega)]
    simp [kidsF]
  | succ d ih =>
    intro i acc hd hi ha
    refine Gets.step (fun k => impl_Children.l0.eq_2 ..) (Gets.pos (by omega) (Gets.pos (by omega) (Gets.pos (by omega) ?_)))
    rw [rd_get (by omega), wrapId (by omega) (by omega), drop_at l i (by omega)]
    simp only [Int.toNat_natCast, kidsF]
    rw [show ((i : Int) + 1) = ((i + 1 : Nat) : Int) by omega]
    refine Gets.ite (fun h => Gets.pos (by omega) ?_) (fun h => ?_)
    · refine (ih (i + 1) (acc ++ [(i : Int)]) (by omega) (by omega) (by simp; omega)).mono (fun r hr => ?_)
      rw [hr, if_pos h]; simp
    · refine (ih (i + 1) acc (by omega) (by omega) (by omega)).mono (fun r hr => ?_)
      rw [hr, if_neg h]
theorem implChildren (l : List Int) (x : Int) (hl : l.length ≤ 2000000) : Gets (fun k => impl_Children.f k l x) (· = kidsF x l 0) := by
  unfold impl_Children.f
  have h := implChildren_l0 l x hl l.length 0 [] (by omega) (by omega) (by simp; omega)
  simpa using h
theorem specChildren_l0 (l : List Int) (x : Int) (hl : l.length ≤ 2000000) (d : Nat) : ∀ (i : Nat) (acc : List Int), l.length - i = d → i ≤ l.length → acc.length + d ≤ 2000000 → Gets (fun k => spec_Children.l0 k l x acc (i : Int)) (· = acc ++ kidsF x (l.drop i) i) := by
  induction d with
  | zero =>
    intro i acc hd hi ha
    refine Gets.step (fun k => spec_Children.l0.eq_2 ..) (Gets.neg (by omega) (Gets.ret ?_))
    rw [List.drop_of_length_le (by omega)]
    simp [kidsF]
  | succ d ih =>
    intro i acc hd hi ha
    refine Gets.step (fun k => spec_Children.l0.eq_2 ..) (Gets.pos (by omega) (Gets.pos (by omega) ?_))
    rw [rd_get (by omega), wrapId (by omega) (by omega), drop_at l i (by omega)]
    simp only [Int.toNat_natCast, kidsF]
    rw [show ((i : Int) + 1) = ((i + 1 : Nat) : Int) by omega]
    refine Gets.ite (fun h => Gets.pos (by omega) ?_) (fun h => ?_)
    · refine (ih (i + 1) (acc ++ [(i : Int)]) (by omega) (by omega) (by simp; omega)).mono (fun r hr => ?_)
      rw [hr, if_pos h]; simp
    · refine (ih (i + 1) acc (by omega) (by omega) (by omega)).mono (fun r hr => ?_)
      rw [hr, if_neg h]
theorem specChildren (l : List Int) (x : Int) (hl : l.length ≤ 2000000) : Gets (fun k => spec_Children.f k l x) (· = kidsF x l 0) := by
  unfold spec_Children.f
  have h := specChildren_l0 l x hl l.length 0 [] (by omega) (by omega) (by simp; omega)
  simpa using h

theorem FnExactChildren : Stat.FnExactChildren := by
  intro l x _ _
  refine Gets.rounds ?_
  unfold laws_FnExactChildren.f
  refine Gets.ite (fun _ => Gets.ret rfl) (fun hs => ?_)
  have hl : l.length ≤ 1048576 := by omega
  have hk := kidsF_length x l 0
  refine Gets.bindE (toIntS l (by omega)).ev (Gets.bindE (specChildren l x (by omega)).ev (Gets.bindE (toIntS l (by omega)).ev (Gets.bindE (implChildren l x (by omega)).ev ?_)))
  refine Gets.bind (eqIntS_true _ (by omega)) (fun e he => Gets.pos he (Gets.bindE (toIntS l (by omega)).ev ?_))
  refine Gets.bind (eqIntS_true _ (by omega)) (fun e he => Gets.pos he (Gets.bindE (markIntS _ 1 (by omega) (by omega)).ev ?_))
  refine Gets.neg (by simp only; omega) (Gets.bind (eqIntS_true _ (by omega)) (fun e he => ?_))
  refine Gets.step (fun k => laws_FnExactChildren.j0.eq_2 ..) (Gets.neg (by rw [he]; simp) (Gets.bindE (markIntS _ 1 (by omega) (by omega)).ev ?_))
  refine Gets.bindE (heldIntS 1 _ (by omega) (by omega)).ev ?_
  refine Gets.neg (by omega) (Gets.pos rfl (Gets.bindE (toIntS l (by omega)).ev (Gets.bindE (implChildren l x (by omega)).ev ?_)))
  refine Gets.bind (eqIntS_true _ (by omega)) (fun e he => Gets.pos he (Gets.bindE (heldIntS 1 _ (by omega) (by omega)).ev ?_))
  exact Gets.neg (by omega) (Gets.pos rfl (Gets.ret rfl))

end Go.Proofs.Ytlnmiafahjddhaa.Pure
