/- TokenText answers as the spec says, and keeps nothing of what it is handed -/
import Derived.Test.YtfakkehopmihoaaStatFnExactTokenText
import Derived.Lib.Strings
set_option linter.unusedVariables false
set_option linter.unusedSimpArgs false
namespace Go.Proofs.Ytfakkehopmihoaa.Pure
open Go.RowKit Go.Proofs.Ytfakkehopmihoaa.PFnExactTokenText Go.Proofs.YtfakkehopmihoaaW.PrintWords Go.Proofs.YtfakkehopmihoaaW.PrintLast

/-! ### plain words: from some number of rounds on -/
def Gets {α : Type} (f : Nat → Option α) (Q : α → Prop) : Prop := ∃ r, Ev f r ∧ Q r
theorem Gets.ret {α : Type} {Q : α → Prop} {r : α} (h : Q r) : Gets (fun _ => some r) Q := ⟨r, Ev.now r, h⟩
theorem Gets.none {α : Type} {Q : α → Prop} (h : False) : Gets (fun _ => (Option.none : Option α)) Q := h.elim
theorem Gets.step {α : Type} {g f : Nat → Option α} {Q : α → Prop} (h : ∀ k, g (k + 1) = f k) (k : Gets f Q) : Gets g Q := by
  obtain ⟨r, hr, hq⟩ := k
  exact ⟨r, Ev.step h hr, hq⟩
theorem Ev.ite {α : Type} {c : Prop} [Decidable c] {f g : Nat → Option α} {r : α} (h : c → Ev f r) (k : ¬ c → Ev g r) : Ev (fun n => if c then f n else g n) r := by
  by_cases hc : c
  · simp only [hc, if_true]; exact h hc
  · simp only [hc, if_false]; exact k hc
theorem Gets.ite {α : Type} {c : Prop} [Decidable c] {f g : Nat → Option α} {Q : α → Prop} (h : c → Gets f Q) (k : ¬ c → Gets g Q) : Gets (fun n => if c then f n else g n) Q := by
  by_cases hc : c
  · simp only [hc, if_true]; exact h hc
  · simp only [hc, if_false]; exact k hc
theorem Gets.pos {α : Type} {c : Prop} [Decidable c] {f g : Nat → Option α} {Q : α → Prop} (hc : c) (h : Gets f Q) : Gets (fun n => if c then f n else g n) Q := by
  simp only [hc, if_true]; exact h
theorem Gets.neg {α : Type} {c : Prop} [Decidable c] {f g : Nat → Option α} {Q : α → Prop} (hc : ¬ c) (h : Gets g Q) : Gets (fun n => if c then f n else g n) Q := by
  simp only [hc, if_false]; exact h
theorem Gets.bind {α β : Type} {g : Nat → Option α} {f : Nat → α → Option β} {P : α → Prop} {Q : β → Prop} (h : Gets g P) (k : ∀ a, P a → Gets (fun n => f n a) Q) : Gets (fun n => (g n).bind (f n)) Q := by
  obtain ⟨a, ha, hp⟩ := h
  obtain ⟨r, hr, hq⟩ := k a hp
  exact ⟨r, Ev.bind ha hr, hq⟩
theorem Gets.bindE {α β : Type} {g : Nat → Option α} {f : Nat → α → Option β} {a : α} {Q : β → Prop} (h : Ev g a) (k : Gets (fun n => f n a) Q) : Gets (fun n => (g n).bind (f n)) Q := by
  obtain ⟨r, hr, hq⟩ := k
  exact ⟨r, Ev.bind h hr, hq⟩
theorem Gets.mono {α : Type} {f : Nat → Option α} {P Q : α → Prop} (h : Gets f P) (k : ∀ a, P a → Q a) : Gets f Q := by
  obtain ⟨r, hr, hp⟩ := h
  exact ⟨r, hr, k r hp⟩
theorem Gets.rounds {α : Type} {f : Nat → Option α} {r : α} (h : Gets f (· = r)) : ∃ k, f k = some r := by
  obtain ⟨a, ha, rfl⟩ := h
  exact ha.rounds
theorem Gets.ev {α : Type} {f : Nat → Option α} {r : α} (h : Gets f (· = r)) : Ev f r := by
  obtain ⟨a, ha, rfl⟩ := h
  exact ha
theorem Ev.gets {α : Type} {f : Nat → Option α} {r : α} {Q : α → Prop} (h : Ev f r) (hq : Q r) : Gets f Q := ⟨r, h, hq⟩
theorem Gets.same {α : Type} {o : Option α} {Q : α → Prop} {r : α} (h : o = some r) (hq : Q r) : Gets (fun _ => o) Q := by
  subst h; exact Gets.ret hq
theorem wrapId {x : Int} (h0 : -9223372036854775808 ≤ x) (h1 : x ≤ 9223372036854775807) : wrap64 x = x := by
  unfold wrap64; omega
theorem i64_bd {n : Int} (h : (Lit.int .i64 n).wf = true) : -9223372036854775808 ≤ n ∧ n ≤ 9223372036854775807 := by
  have hm : IntKind.i64.min = -9223372036854775808 := rfl
  simp [Lit.wf, hm] at h
  exact h
theorem boolEq {a b : Bool} {P Q : Prop} (ha : a = true ↔ P) (hb : b = true ↔ Q) (h : P ↔ Q) : a = b := by
  rw [Bool.eq_iff_iff, ha, hb, h]
theorem tmod_nn {a b : Int} (h : 0 ≤ a) : Int.tmod a b = a % b := Int.tmod_eq_emod_of_nonneg h
theorem tdiv_nn {a b : Int} (h : 0 ≤ a) : Int.tdiv a b = a / b := Int.tdiv_eq_ediv_of_nonneg h

/-! ### rows of numbers -/
theorem rd_get {l : List Int} {i : Int} (h : i.toNat < l.length) : rd l i = l[i.toNat] := by
  unfold rd; rw [List.getD_eq_getElem?_getD, List.getElem?_eq_getElem h]; rfl
theorem fill_step {α : Type} (l : List α) (d : α) (i : Nat) (h : i < l.length) : (l.take i ++ List.replicate (l.length - i) d).set i l[i] = l.take (i + 1) ++ List.replicate (l.length - (i + 1)) d := by
  have e : List.replicate (l.length - i) d = d :: List.replicate (l.length - (i + 1)) d := by
    rw [show l.length - i = (l.length - (i + 1)) + 1 by omega]; rfl
  rw [e, List.set_append_right _ _ (by rw [List.length_take]; omega), List.length_take, show i - min i l.length = 0 by omega, List.set_cons_zero, List.take_succ_eq_append_getElem h, List.append_assoc]
  rfl
theorem drop_at {α : Type} (l : List α) (i : Nat) (h : i < l.length) : l.drop i = l[i] :: l.drop (i + 1) := List.drop_eq_getElem_cons h
def marks (k : Int) (n : Nat) : List Int := (List.range n).map (fun (i : Nat) => k + (i : Int))
theorem marks_length (k : Int) (n : Nat) : (marks k n).length = n := by simp [marks]
theorem marks_get (k : Int) (n i : Nat) (h : i < n) : (marks k n)[i]'(by rw [marks_length]; exact h) = k + i := by simp [marks]

/-- Numbers in lo .. hi, ascending, above p. -/
def ascI (lo hi : Int) : Int → List Int → Bool
  | _, [] => true
  | p, x :: l => decide (lo ≤ x ∧ x ≤ hi) && (decide (p < x) && ascI lo hi x l)
theorem ascI_cons (lo hi p x : Int) (l : List Int) : ascI lo hi p (x :: l) = (decide (lo ≤ x ∧ x ≤ hi) && (decide (p < x) && ascI lo hi x l)) := rfl

theorem inR (x a b : Int) : impl_inRange.f x a b = some (decide (a ≤ x ∧ x ≤ b)) := by
  unfold impl_inRange.f
  by_cases h : x ≥ a
  · rw [if_pos h]; simp [show a ≤ x from h]
  · rw [if_neg h]; simp [show ¬ a ≤ x from h]

theorem implTok_l0 (a b c d_ e : Int) (lo_ : List Int) (hl : lo_.length ≤ 35184372088832) (d : Nat) : ∀ (i : Nat) (p : Int), lo_.length - i = d → i ≤ lo_.length → (i = 0 → p = 0) → (∀ h : 0 < i, ∀ h2 : i - 1 < lo_.length, p = lo_[i - 1]'h2) → Gets (fun k => impl_TokenOk.l0 k lo_ (lo_.length : Int) (i : Int) a b c d_ e lo_) (· = (ascI 1 c p (lo_.drop i) && decide ((0 ≤ d_ ∧ d_ ≤ c) ∧ (0 ≤ e ∧ e ≤ 5) ∧ (lo_.length : Int) ≤ 20))) := by
  induction d with
  | zero =>
    intro i p hd hi _ _
    refine Gets.step (fun k => impl_TokenOk.l0.eq_2 ..) (Gets.neg (by omega) ?_)
    rw [List.drop_of_length_le (by omega)]
    simp only [inR, Option.bind_some, decide_eq_true_eq, ascI, Bool.true_and]
    refine Gets.ite (fun h1 => ?_) (fun h1 => Gets.ret (by rw [decide_eq_false (fun h => h1 h.1)]))
    exact Gets.ite (fun h2 => Gets.ret (by rw [decide_eq_decide]; exact ⟨fun h => ⟨h1, h2, h⟩, fun h => h.2.2⟩)) (fun h2 => Gets.ret (by rw [decide_eq_false (fun h => h2 h.2.1)]))
  | succ d ih =>
    intro i p hd hi hp0 hp1
    refine Gets.step (fun k => impl_TokenOk.l0.eq_2 ..) (Gets.pos (by omega) (Gets.pos (by omega) (Gets.pos (by omega) ?_)))
    rw [rd_get (by omega), drop_at lo_ i (by omega)]
    simp only [inR, Int.toNat_natCast, Option.bind_some]
    have hi1 := ih (i + 1) lo_[i] (by omega) (by omega) (by omega) (fun _ h2 => by simp)
    rw [show (((i + 1 : Nat)) : Int) = (i : Int) + 1 by omega] at hi1
    rw [wrapId (x := (i : Int) + 1) (by omega) (by omega)]
    rw [ascI_cons]
    refine Gets.ite (fun h => ?_) (fun h => Gets.ret ?_)
    · have hb := of_decide_eq_true h
      rw [h, Bool.true_and]
      refine Gets.ite (fun h1 => ?_) (fun h1 => ?_)
      · rw [wrapId (x := (i : Int) - 1) (by omega) (by omega)]
        refine Gets.pos (by omega) (Gets.pos (by omega) ?_)
        rw [rd_get (l := lo_) (i := (i : Int) - 1) (by omega)]
        have e := hp1 (by omega) (by omega)
        have e2 : (lo_[((i : Int) - 1).toNat]'(by omega)) = lo_[i - 1]'(by omega) := by congr 1; omega
        rw [e2, ← e]
        refine Gets.ite (fun h2 => Gets.ret ?_) (fun h2 => hi1.mono (fun r hr => ?_))
        · rw [decide_eq_false (show ¬ p < lo_[i] by omega)]; rfl
        · rw [hr, decide_eq_true (show p < lo_[i] by omega)]; rfl
      · refine hi1.mono (fun r hr => ?_)
        have hp := hp0 (by omega)
        rw [hr, decide_eq_true (show p < lo_[i] by omega)]; rfl
    · rw [Bool.eq_false_iff.2 h]; rfl
def tokB (a b c d e : Int) (l : List Int) : Bool := decide ((1 ≤ a ∧ a ≤ 9) ∧ (1 ≤ b ∧ b ≤ 1000000000) ∧ (0 ≤ c ∧ c ≤ 60)) && (ascI 1 c 0 l && decide ((0 ≤ d ∧ d ≤ c) ∧ (0 ≤ e ∧ e ≤ 5) ∧ (l.length : Int) ≤ 20))
theorem implTok (a b c d e : Int) (l : List Int) (hl : l.length ≤ 35184372088832) : Gets (fun k => impl_TokenOk.f k a b c d e l) (· = tokB a b c d e l) := by
  have no : ∀ k, ¬ ((1 ≤ a ∧ a ≤ 9) ∧ (1 ≤ b ∧ b ≤ 1000000000) ∧ (0 ≤ c ∧ c ≤ 60)) → k = true → Gets (fun n => impl_TokenOk.j0 n k a b c d e l) (· = tokB a b c d e l) := fun k h hk => by
    refine Gets.step (fun k => impl_TokenOk.j0.eq_2 ..) (Gets.pos hk (Gets.ret ?_))
    unfold tokB; rw [decide_eq_false h]; rfl
  unfold impl_TokenOk.f
  simp only [inR, Option.bind_some, decide_eq_true_eq]
  refine Gets.ite (fun h => Gets.ite (fun h2 => ?_) (fun h2 => no _ (fun h4 => h2 h4.2.1) rfl)) (fun h => no _ (fun h4 => h h4.1) rfl)
  by_cases h3 : 0 ≤ c ∧ c ≤ 60
  · refine Gets.step (fun k => impl_TokenOk.j0.eq_2 ..) (Gets.neg (by simp [h3]) ?_)
    have h4 := implTok_l0 a b c d e l hl l.length 0 0 (by omega) (by omega) (fun _ => rfl) (fun h => by omega)
    unfold tokB
    rw [decide_eq_true ⟨h, h2, h3⟩, Bool.true_and]
    simpa using h4
  · exact no _ (fun h4 => h3 h4.2.2) (by simp only [decide_eq_false h3]; rfl)

theorem inS (x a b : Int) : spec_l01In.f x a b = some (decide (a ≤ x ∧ x ≤ b)) := by
  unfold spec_l01In.f
  by_cases h : x ≥ a
  · rw [if_pos h]; simp [show a ≤ x from h]
  · rw [if_neg h]; simp [show ¬ a ≤ x from h]

theorem specTok_l0 (a b c d_ e : Int) (lo_ : List Int) (hl : lo_.length ≤ 35184372088832) (d : Nat) : ∀ (i : Nat) (p : Int), lo_.length - i = d → i ≤ lo_.length → (i = 0 → p = 0) → (∀ h : 0 < i, ∀ h2 : i - 1 < lo_.length, p = lo_[i - 1]'h2) → Gets (fun k => spec_TokenOk.l0 k (i : Int) a b c d_ e lo_) (· = (ascI 1 c p (lo_.drop i) && true)) := by
  induction d with
  | zero =>
    intro i p hd hi _ _
    refine Gets.step (fun k => spec_TokenOk.l0.eq_2 ..) (Gets.neg (by omega) ?_)
    rw [List.drop_of_length_le (by omega)]
    exact Gets.ret rfl
  | succ d ih =>
    intro i p hd hi hp0 hp1
    refine Gets.step (fun k => spec_TokenOk.l0.eq_2 ..) (Gets.pos (by omega) (Gets.pos (by omega) ?_))
    rw [rd_get (by omega), drop_at lo_ i (by omega)]
    simp only [inS, Int.toNat_natCast, Option.bind_some]
    have hi1 := ih (i + 1) lo_[i] (by omega) (by omega) (by omega) (fun _ h2 => by simp)
    rw [show (((i + 1 : Nat)) : Int) = (i : Int) + 1 by omega] at hi1
    rw [wrapId (x := (i : Int) + 1) (by omega) (by omega)]
    rw [ascI_cons]
    refine Gets.ite (fun h => ?_) (fun h => Gets.ret ?_)
    · have hb := of_decide_eq_true h
      rw [h, Bool.true_and]
      refine Gets.ite (fun h1 => ?_) (fun h1 => ?_)
      · rw [wrapId (x := (i : Int) - 1) (by omega) (by omega)]
        refine Gets.pos (by omega) (Gets.pos (by omega) ?_)
        rw [rd_get (l := lo_) (i := (i : Int) - 1) (by omega)]
        have e := hp1 (by omega) (by omega)
        have e2 : (lo_[((i : Int) - 1).toNat]'(by omega)) = lo_[i - 1]'(by omega) := by congr 1; omega
        rw [e2, ← e]
        refine Gets.ite (fun h2 => Gets.ret ?_) (fun h2 => hi1.mono (fun r hr => ?_))
        · rw [decide_eq_false (show ¬ p < lo_[i] by omega)]; rfl
        · rw [hr, decide_eq_true (show p < lo_[i] by omega)]; rfl
      · refine hi1.mono (fun r hr => ?_)
        have hp := hp0 (by omega)
        rw [hr, decide_eq_true (show p < lo_[i] by omega)]; rfl
    · rw [Bool.eq_false_iff.2 h]; rfl
theorem specTok (a b c d e : Int) (l : List Int) (hl : l.length ≤ 35184372088832) : Gets (fun k => spec_TokenOk.f k a b c d e l) (· = tokB a b c d e l) := by
  have no : ∀ k, ¬ (((1 ≤ a ∧ a ≤ 9) ∧ (1 ≤ b ∧ b ≤ 1000000000) ∧ (0 ≤ c ∧ c ≤ 60)) ∧ ((0 ≤ d ∧ d ≤ c) ∧ (0 ≤ e ∧ e ≤ 5) ∧ (l.length : Int) ≤ 20)) → k = true → Gets (fun n => spec_TokenOk.j0 n k a b c d e l) (· = tokB a b c d e l) := fun k h hk => by
    refine Gets.step (fun k => spec_TokenOk.j0.eq_2 ..) (Gets.pos hk (Gets.ret ?_))
    unfold tokB
    by_cases h1 : (1 ≤ a ∧ a ≤ 9) ∧ (1 ≤ b ∧ b ≤ 1000000000) ∧ (0 ≤ c ∧ c ≤ 60)
    · rw [decide_eq_false (p := (0 ≤ d ∧ d ≤ c) ∧ (0 ≤ e ∧ e ≤ 5) ∧ (l.length : Int) ≤ 20) (fun h2 => h ⟨h1, h2⟩)]; simp
    · rw [decide_eq_false h1]; rfl
  unfold spec_TokenOk.f
  simp only [inS, Option.bind_some, decide_eq_true_eq]
  refine Gets.ite (fun h1 => Gets.ite (fun h2 => Gets.ite (fun h3 => Gets.ite (fun h4 => Gets.ite (fun h5 => ?_) (fun h5 => no _ (fun h => h5 h.2.2.1) rfl)) (fun h4 => no _ (fun h => h4 h.2.1) rfl)) (fun h3 => no _ (fun h => h3 h.1.2.2) rfl)) (fun h2 => no _ (fun h => h2 h.1.2.1) rfl)) (fun h1 => no _ (fun h => h1 h.1.1) rfl)
  by_cases h6 : (l.length : Int) ≤ 20
  · refine Gets.step (fun k => spec_TokenOk.j0.eq_2 ..) (Gets.neg (by simp; omega) ?_)
    have h7 := specTok_l0 a b c d e l hl l.length 0 0 (by omega) (by omega) (fun _ => rfl) (fun h => by omega)
    unfold tokB
    rw [decide_eq_true ⟨h1, h2, h3⟩, Bool.true_and, decide_eq_true ⟨h4, h5, h6⟩]
    simpa using h7
  · exact no _ (fun h => h6 h.2.2.2) (by simp; omega)

theorem octets_l0 (l : List Int) (hl : l.length ≤ 2000000) (d : Nat) : ∀ (i : Nat) (acc : List Int), l.length - i = d → i ≤ l.length → acc.length + d ≤ 2000000 → Gets (fun k => impl_octets.l0 k acc l (l.length : Int) (i : Int)) (· = strOfNums (acc ++ (l.drop i).map (· % 256))) := by
  induction d with
  | zero =>
    intro i acc hd hi ha
    refine Gets.step (fun k => impl_octets.l0.eq_2 ..) (Gets.neg (by omega) (Gets.ret ?_))
    rw [List.drop_of_length_le (by omega)]
    simp
  | succ d ih =>
    intro i acc hd hi ha
    refine Gets.step (fun k => impl_octets.l0.eq_2 ..) (Gets.pos (by omega) (Gets.pos (by omega) (Gets.pos (by omega) (Gets.pos (by omega) ?_))))
    rw [rd_get (by omega), wrapId (by omega) (by omega), drop_at l i (by omega)]
    simp only [Int.toNat_natCast]
    rw [show ((i : Int) + 1) = ((i + 1 : Nat) : Int) by omega]
    refine (ih (i + 1) (acc ++ [l[i] % 256]) (by omega) (by omega) (by simp; omega)).mono (fun r hr => ?_)
    rw [hr]; simp only [List.map_cons, List.append_assoc, List.singleton_append]
theorem octets (l : List Int) (hl : l.length ≤ 2000000) : Gets (fun k => impl_octets.f k l) (· = strOfNums (l.map (· % 256))) := by
  unfold impl_octets.f
  have h := octets_l0 l hl l.length 0 [] (by omega) (by omega) (by simp; omega)
  simpa using h

/-! ### numbers in bytes -/
def vtx (n : Nat) : List Int := if h : 127 < n then (128 + (n % 128 : Nat) : Int) :: vtx (n / 128) else [(n : Int)]
termination_by n
decreasing_by omega
theorem vtx_small {n : Nat} (h : n ≤ 127) : vtx n = [(n : Int)] := by rw [vtx, dif_neg (by omega)]
theorem vtx_big {n : Nat} (h : 127 < n) : vtx n = (128 + (n % 128 : Nat) : Int) :: vtx (n / 128) := by rw [vtx, dif_pos h]
theorem vtx_length (j : Nat) : ∀ n : Nat, n < 128 ^ (j + 1) → 1 ≤ (vtx n).length ∧ (vtx n).length ≤ j + 1 := by
  induction j with
  | zero => intro n h; rw [vtx_small (by omega)]; simp
  | succ j ih =>
    intro n h
    rcases Nat.lt_or_ge 127 n with h1 | h1
    · rw [vtx_big h1]
      have hp : (128 : Nat) ^ (j + 1 + 1) = 128 ^ (j + 1) * 128 := Nat.pow_succ ..
      have h2 : n / 128 < 128 ^ (j + 1) := by rw [Nat.div_lt_iff_lt_mul (by omega)]; omega
      have := ih _ h2
      simp only [List.length_cons]
      omega
    · rw [vtx_small h1]; simp
theorem big128 {n : Nat} (h : n ≤ 9223372036854775807) : n < 128 ^ (9 + 1) := by
  have : (128 : Nat) ^ (9 + 1) = 1180591620717411303424 := by decide
  omega

theorem implVar_l0 (j : Nat) : ∀ (n : Nat) (acc : List Int), n < 128 ^ (j + 1) → acc.length + j < 1000 → n ≤ 9223372036854775807 → Gets (fun k => impl_varText.l0 k (n : Int) acc) (· = strOfNums (acc ++ vtx n)) := by
  induction j with
  | zero =>
    intro n acc hn hl hb
    refine Gets.step (fun k => impl_varText.l0.eq_2 ..) ?_
    refine Gets.neg (by omega) (Gets.pos (by omega) (Gets.ret ?_))
    rw [vtx_small (by omega), show (n : Int) % 256 = n by omega]
  | succ j ih =>
    intro n acc hn hl hb
    refine Gets.step (fun k => impl_varText.l0.eq_2 ..) ?_
    refine Gets.ite (fun h => Gets.pos (by omega) ?_) (fun h => Gets.pos (by omega) (Gets.ret ?_))
    · have hp : (128 : Nat) ^ (j + 1 + 1) = 128 ^ (j + 1) * 128 := Nat.pow_succ ..
      have h2 : n / 128 < 128 ^ (j + 1) := by rw [Nat.div_lt_iff_lt_mul (by omega)]; omega
      rw [tdiv_nn (by omega), tmod_nn (by omega), show ((n : Int) / 128) = ((n / 128 : Nat) : Int) by omega, wrapId (by omega) (by omega), wrapId (by omega) (by omega)]
      refine (ih (n / 128) (acc ++ [(128 + (n : Int) % 128) % 256]) h2 (by simp; omega) (by omega)).mono (fun r hr => ?_)
      rw [hr, vtx_big (n := n) (by omega), List.append_assoc, List.singleton_append, show (128 + (n : Int) % 128) % 256 = 128 + (n % 128 : Nat) by omega]
    · rw [vtx_small (by omega), show (n : Int) % 256 = n by omega]
theorem implVar (n : Nat) (hb : n ≤ 9223372036854775807) : Gets (fun k => impl_varText.f k (n : Int)) (· = strOfNums (vtx n)) := by
  unfold impl_varText.f
  exact implVar_l0 9 n [] (big128 hb) (by simp) hb

theorem specVar_l0 (j : Nat) : ∀ (n : Nat) (acc : List Int), n < 128 ^ (j + 1) → acc.length + j < 1000 → n ≤ 9223372036854775807 → Gets (fun k => spec_l01Var.l0 k (n : Int) acc) (· = strOfNums (acc ++ vtx n)) := by
  induction j with
  | zero =>
    intro n acc hn hl hb
    refine Gets.step (fun k => spec_l01Var.l0.eq_2 ..) ?_
    refine Gets.neg (by omega) (Gets.pos (by omega) (Gets.ret ?_))
    rw [vtx_small (by omega), show (n : Int) % 256 = n by omega]
  | succ j ih =>
    intro n acc hn hl hb
    refine Gets.step (fun k => spec_l01Var.l0.eq_2 ..) ?_
    refine Gets.ite (fun h => Gets.pos (by omega) ?_) (fun h => Gets.pos (by omega) (Gets.ret ?_))
    · have hp : (128 : Nat) ^ (j + 1 + 1) = 128 ^ (j + 1) * 128 := Nat.pow_succ ..
      have h2 : n / 128 < 128 ^ (j + 1) := by rw [Nat.div_lt_iff_lt_mul (by omega)]; omega
      rw [tdiv_nn (by omega), tmod_nn (by omega), show ((n : Int) / 128) = ((n / 128 : Nat) : Int) by omega, wrapId (by omega) (by omega), wrapId (by omega) (by omega)]
      refine (ih (n / 128) (acc ++ [((n : Int) % 128 + 128) % 256]) h2 (by simp; omega) (by omega)).mono (fun r hr => ?_)
      rw [hr, vtx_big (n := n) (by omega), List.append_assoc, List.singleton_append, show ((n : Int) % 128 + 128) % 256 = 128 + (n % 128 : Nat) by omega]
    · rw [vtx_small (by omega), show (n : Int) % 256 = n by omega]
theorem specVar (n : Nat) (hb : n ≤ 9223372036854775807) : Gets (fun k => spec_l01Var.f k (n : Int)) (· = strOfNums (vtx n)) := by
  unfold spec_l01Var.f
  exact specVar_l0 9 n [] (big128 hb) (by simp) hb

/-! ### check sums -/
def hf (x : Int) : Int := if x % 2 = 1 then Go.bits .xor .u32 (x / 2) 3558460437 else x / 2
def hfs : Nat → Int → Int
  | 0, x => x
  | n + 1, x => hfs n (hf x)
def crcL (x : Int) (l : List Int) : Int := l.foldl (fun x b => hfs 8 (Go.bits .xor .u32 x b)) x
theorem u32_wrap (n : Int) : IntKind.u32.wrap n = n % 4294967296 := IntKind.wrap_u32 n
theorem xor_bd (a b : Int) : 0 ≤ Go.bits .xor .u32 a b ∧ Go.bits .xor .u32 a b < 4294967296 := by
  unfold Go.bits
  simp only [u32_wrap]
  omega
theorem and1 (x : Int) (h0 : 0 ≤ x) (h1 : x < 4294967296) : Go.bits .and .u32 x 1 = x % 2 :=
  Go.bits_mask .u32 32 (by decide) (fun n a b => by rw [u32_wrap]; omega) 1 (by decide) x h0 (by simpa using h1)
theorem hf_bd {x : Int} (h0 : 0 ≤ x) (h1 : x < 4294967296) : 0 ≤ hf x ∧ hf x < 4294967296 := by
  unfold hf
  split
  · exact xor_bd _ _
  · omega
theorem hfs_bd : ∀ (n : Nat) {x : Int}, 0 ≤ x → x < 4294967296 → 0 ≤ hfs n x ∧ hfs n x < 4294967296
  | 0, x, h0, h1 => ⟨h0, h1⟩
  | n + 1, x, h0, h1 => hfs_bd n (hf_bd h0 h1).1 (hf_bd h0 h1).2
theorem crcL_bd (l : List Int) : ∀ {x : Int}, 0 ≤ x → x < 4294967296 → 0 ≤ crcL x l ∧ crcL x l < 4294967296 := by
  induction l with
  | nil => intro x h0 h1; exact ⟨h0, h1⟩
  | cons b l ih => intro x h0 h1; exact ih (hfs_bd 8 (xor_bd x b).1 (xor_bd x b).2).1 (hfs_bd 8 (xor_bd x b).1 (xor_bd x b).2).2
theorem bytes_drop (s : ByteArray) (i : Int) (h0 : 0 ≤ i) (h1 : i < s.size) : (bytesOf s).drop i.toNat = bt s i :: (bytesOf s).drop (i + 1).toNat := by
  have hl : (bytesOf s).length = s.size := bytesOf_length s
  rw [List.drop_eq_getElem_cons (by omega), show (i + 1).toNat = i.toNat + 1 by omega]
  congr 1
  unfold bt bytesOf
  rw [dif_pos (by omega)]
  simp
  rfl

theorem implSum_l1 (s : ByteArray) (i : Int) (Q : Int → Prop) (d : Nat) : ∀ x j : Int, 0 ≤ x → x < 4294967296 → 0 ≤ j → 8 - j = d → Gets (fun k => impl_SumMore.l0 k (hfs d x) s (wrap64 (i + 1))) Q → Gets (fun k => impl_SumMore.l1 k x s i j) Q := by
  induction d with
  | zero =>
    intro x j h0 h1 h2 hd h
    refine Gets.step (fun k => impl_SumMore.l1.eq_2 ..) ?_
    exact Gets.neg (by omega) h
  | succ d ih =>
    intro x j h0 h1 h2 hd h
    refine Gets.step (fun k => impl_SumMore.l1.eq_2 ..) ?_
    refine Gets.pos (by omega) ?_
    rw [and1 x h0 h1, wrapId (by omega) (by omega)]
    have hb := hf_bd h0 h1
    have hh : hfs (d + 1) x = hfs d (hf x) := rfl
    rw [hh] at h
    refine Gets.ite (fun hc => ?_) (fun hc => ?_)
    · have e : hf x = Go.bits .xor .u32 (x / 2) 3558460437 := by unfold hf; rw [if_pos hc]
      rw [e] at h hb
      exact ih _ _ hb.1 hb.2 (by omega) (by omega) h
    · have e : hf x = x / 2 := by unfold hf; rw [if_neg hc]
      rw [e] at h hb
      exact ih _ _ hb.1 hb.2 (by omega) (by omega) h
theorem implSum_l0 (s : ByteArray) (hs : s.size ≤ 140737488351232) (d : Nat) : ∀ x i : Int, 0 ≤ x → x < 4294967296 → 0 ≤ i → (s.size : Int) - i = d → Gets (fun k => impl_SumMore.l0 k x s i) (· = crcL x ((bytesOf s).drop i.toNat)) := by
  induction d with
  | zero =>
    intro x i h0 h1 h2 hd
    refine Gets.step (fun k => impl_SumMore.l0.eq_2 ..) ?_
    refine Gets.neg (by omega) (Gets.ret ?_)
    rw [List.drop_of_length_le (by rw [bytesOf_length]; omega)]
    rfl
  | succ d ih =>
    intro x i h0 h1 h2 hd
    refine Gets.step (fun k => impl_SumMore.l0.eq_2 ..) ?_
    refine Gets.pos (by omega) (Gets.pos h2 ?_)
    have hr := bt_range s i
    rw [show bt s i % 4294967296 = bt s i by omega]
    refine implSum_l1 s i _ 8 _ 0 (xor_bd _ _).1 (xor_bd _ _).2 (by omega) (by omega) ?_
    rw [wrapId (by omega) (by omega), bytes_drop s i h2 (by omega)]
    have hb := hfs_bd 8 (xor_bd x (bt s i)).1 (xor_bd x (bt s i)).2
    exact ih _ (i + 1) hb.1 hb.2 (by omega) (by omega)
theorem implSumMore (x : Int) (s : ByteArray) (h0 : 0 ≤ x) (h1 : x < 4294967296) (hs : s.size ≤ 140737488351232) : Gets (fun k => impl_SumMore.f k x s) (· = crcL x (bytesOf s)) := by
  unfold impl_SumMore.f
  exact implSum_l0 s hs s.size x 0 h0 h1 (by omega) (by omega)

def four (n : Int) : List Int := [n / 16777216 % 256, n / 65536 % 256, n / 256 % 256, n % 256]
def sumT (s : ByteArray) : ByteArray := strOfNums (four (crcL 4294967295 (bytesOf s)))
theorem sumT_size (s : ByteArray) : (sumT s).size = 4 := by unfold sumT; rw [strOfNums_size]; rfl

theorem implSumOf (s : ByteArray) (hs : s.size ≤ 140737488351232) : Gets (fun k => impl_SumOf.f k s) (· = crcL 4294967295 (bytesOf s)) := by
  unfold impl_SumOf.f
  exact Gets.bind (implSumMore _ s (by omega) (by omega) hs) (fun a ha => Gets.ret ha)
theorem implSumText (s : ByteArray) (hs : s.size ≤ 140737488351232) : Gets (fun k => impl_sumText.f k s) (· = sumT s) := by
  unfold impl_sumText.f
  refine Gets.bind (implSumOf s hs) (fun a ha => Gets.ret ?_)
  subst ha
  rfl

theorem implSealed (s : ByteArray) (hs : s.size ≤ 140737488351232) : Gets (fun k => impl_Sealed.f k s) (fun r => (s.size ≤ 20000 → r = (s ++ sumT s, true)) ∧ (20000 < s.size → r = ((⟨#[]⟩ : ByteArray), false))) := by
  unfold impl_Sealed.f
  refine Gets.ite (fun h => Gets.ret ⟨fun h1 => by omega, fun _ => rfl⟩) (fun h => ?_)
  refine Gets.bind (implSumText s hs) (fun a ha => ?_)
  subst ha
  exact Gets.pos (by rw [sumT_size]; omega) (Gets.ret ⟨fun _ => rfl, fun h2 => by omega⟩)

theorem specSum_l1 (s : ByteArray) (i : Int) (Q : Int → Prop) (d : Nat) : ∀ x j : Int, 0 ≤ x → x < 4294967296 → 0 ≤ j → 8 - j = d → Gets (fun k => spec_SumMore.l0 k (hfs d x) s (wrap64 (i + 1))) Q → Gets (fun k => spec_SumMore.l1 k x s i j) Q := by
  induction d with
  | zero =>
    intro x j h0 h1 h2 hd h
    refine Gets.step (fun k => spec_SumMore.l1.eq_2 ..) ?_
    exact Gets.neg (by omega) h
  | succ d ih =>
    intro x j h0 h1 h2 hd h
    refine Gets.step (fun k => spec_SumMore.l1.eq_2 ..) ?_
    refine Gets.pos (by omega) ?_
    rw [tmod_nn h0, tdiv_nn h0, show x / 2 % 4294967296 = x / 2 by omega, wrapId (by omega) (by omega)]
    have hb := hf_bd h0 h1
    have hh : hfs (d + 1) x = hfs d (hf x) := rfl
    rw [hh] at h
    refine Gets.ite (fun hc => ?_) (fun hc => ?_)
    · have e : hf x = Go.bits .xor .u32 (x / 2) 3558460437 := by unfold hf; rw [if_pos hc]
      rw [e] at h hb
      exact ih _ _ hb.1 hb.2 (by omega) (by omega) h
    · have e : hf x = x / 2 := by unfold hf; rw [if_neg hc]
      rw [e] at h hb
      exact ih _ _ hb.1 hb.2 (by omega) (by omega) h
theorem specSum_l0 (s : ByteArray) (hs : s.size ≤ 140737488351232) (d : Nat) : ∀ x i : Int, 0 ≤ x → x < 4294967296 → 0 ≤ i → (s.size : Int) - i = d → Gets (fun k => spec_SumMore.l0 k x s i) (· = crcL x ((bytesOf s).drop i.toNat)) := by
  induction d with
  | zero =>
    intro x i h0 h1 h2 hd
    refine Gets.step (fun k => spec_SumMore.l0.eq_2 ..) ?_
    refine Gets.neg (by omega) (Gets.ret ?_)
    rw [List.drop_of_length_le (by rw [bytesOf_length]; omega)]
    rfl
  | succ d ih =>
    intro x i h0 h1 h2 hd
    refine Gets.step (fun k => spec_SumMore.l0.eq_2 ..) ?_
    refine Gets.pos (by omega) (Gets.pos h2 ?_)
    have hr := bt_range s i
    rw [show bt s i % 4294967296 = bt s i by omega]
    refine specSum_l1 s i _ 8 _ 0 (xor_bd _ _).1 (xor_bd _ _).2 (by omega) (by omega) ?_
    rw [wrapId (by omega) (by omega), bytes_drop s i h2 (by omega)]
    have hb := hfs_bd 8 (xor_bd x (bt s i)).1 (xor_bd x (bt s i)).2
    exact ih _ (i + 1) hb.1 hb.2 (by omega) (by omega)
theorem specSumMore (x : Int) (s : ByteArray) (h0 : 0 ≤ x) (h1 : x < 4294967296) (hs : s.size ≤ 140737488351232) : Gets (fun k => spec_SumMore.f k x s) (· = crcL x (bytesOf s)) := by
  unfold spec_SumMore.f
  exact specSum_l0 s hs s.size x 0 h0 h1 (by omega) (by omega)

theorem specSumOf (s : ByteArray) (hs : s.size ≤ 140737488351232) : Gets (fun k => spec_SumOf.f k s) (· = crcL 4294967295 (bytesOf s)) := by
  unfold spec_SumOf.f
  exact Gets.bind (specSumMore _ s (by omega) (by omega) hs) (fun a ha => Gets.ret ha)

theorem specFour (n : Int) : spec_l02Four.f n = some (strOfNums (four n)) := rfl

theorem szIntS (l : List Int) (m : Int) (hm : 0 ≤ m ∧ m ≤ 9000000) (hl : l.length ≤ maxLen) : laws_szIntS.f l m = some (if m - l.length < 0 then -1 else m - l.length) := by
  unfold maxLen at hl
  unfold laws_szIntS.f
  rw [wrapId (by omega) (by omega)]
  split <;> rfl

theorem toIntS_l0 (l : List Int) (hl : l.length ≤ 35184372088832) (d : Nat) : ∀ i : Nat, l.length - i = d → i ≤ l.length → Gets (fun k => laws_toIntS.l0 k l (l.take i ++ List.replicate (l.length - i) 0) (i : Int)) (· = l) := by
  induction d with
  | zero =>
    intro i hd hi
    refine Gets.step (fun k => laws_toIntS.l0.eq_2 ..) (Gets.neg (by omega) (Gets.ret ?_))
    rw [show i = l.length by omega]
    simp
  | succ d ih =>
    intro i hd hi
    refine Gets.step (fun k => laws_toIntS.l0.eq_2 ..) (Gets.pos (by omega) (Gets.pos (by omega) (Gets.pos (by simp; omega) ?_)))
    rw [rd_get (by omega), wrapId (by omega) (by omega)]
    simp only [Int.toNat_natCast]
    rw [fill_step l 0 i (by omega), show ((i : Int) + 1) = ((i + 1 : Nat) : Int) by omega]
    exact ih (i + 1) (by omega) (by omega)
theorem toIntS (l : List Int) (hl : l.length ≤ 35184372088832) : Gets (fun k => laws_toIntS.f k l) (· = l) := by
  unfold laws_toIntS.f
  refine Gets.pos (by omega) (Gets.pos (by omega) ?_)
  exact toIntS_l0 l hl l.length 0 (by omega) (by omega)

theorem eqIntS_l0 (a b : List Int) (ha : a.length ≤ 35184372088832) (hab : a.length = b.length) (d : Nat) : ∀ i : Nat, a.length - i = d → i ≤ a.length → Gets (fun k => laws_eqIntS.l0 k a b (i : Int)) (fun r => r = true ↔ a.drop i = b.drop i) := by
  induction d with
  | zero =>
    intro i hd hi
    refine Gets.step (fun k => laws_eqIntS.l0.eq_2 ..) (Gets.neg (by omega) (Gets.ret ?_))
    rw [List.drop_of_length_le (by omega), List.drop_of_length_le (by omega)]
    simp
  | succ d ih =>
    intro i hd hi
    refine Gets.step (fun k => laws_eqIntS.l0.eq_2 ..) (Gets.pos (by omega) (Gets.pos (by omega) (Gets.pos (by omega) ?_)))
    rw [rd_get (by omega), rd_get (by omega), wrapId (by omega) (by omega)]
    simp only [Int.toNat_natCast]
    rw [drop_at a i (by omega), drop_at b i (by omega)]
    refine Gets.ite (fun h => ?_) (fun h => Gets.ret ?_)
    · rw [show ((i : Int) + 1) = ((i + 1 : Nat) : Int) by omega]
      refine (ih (i + 1) (by omega) (by omega)).mono (fun r hr => ?_)
      rw [hr]
      simp only [List.cons.injEq, h, true_and]
    · simp only [List.cons.injEq, h, false_and, Bool.false_eq_true]
theorem eqIntS (a b : List Int) (ha : a.length ≤ 35184372088832) : Gets (fun k => laws_eqIntS.f k a b) (fun r => r = true ↔ a = b) := by
  unfold laws_eqIntS.f
  refine Gets.ite (fun h => ?_) (fun h => Gets.ret ?_)
  · exact eqIntS_l0 a b ha (by omega) a.length 0 (by omega) (by omega)
  · simp only [Bool.false_eq_true, false_iff]
    rintro rfl
    exact h rfl
theorem eqIntS_true (a : List Int) (ha : a.length ≤ 35184372088832) : Gets (fun k => laws_eqIntS.f k a a) (fun r => r = true) := (eqIntS a a ha).mono (fun r hr => hr.2 rfl)

def vT (x : Int) : ByteArray := strOfNums (vtx x.toNat)
theorem vT_size {x : Int} (h0 : 0 ≤ x) (h1 : x ≤ 9223372036854775807) : (vT x).size ≤ 10 := by
  unfold vT
  rw [strOfNums_size]
  have := (vtx_length 9 x.toNat (big128 (by omega))).2
  omega
theorem implV {x : Int} (h0 : 0 ≤ x) (h1 : x ≤ 9223372036854775807) : Gets (fun k => impl_varText.f k x) (· = vT x) := by
  have := implVar x.toNat (by omega)
  rwa [Int.toNat_of_nonneg h0] at this
theorem specV {x : Int} (h0 : 0 ≤ x) (h1 : x ≤ 9223372036854775807) : Gets (fun k => spec_l01Var.f k x) (· = vT x) := by
  have := specVar x.toNat (by omega)
  rwa [Int.toNat_of_nonneg h0] at this
def oT (x : Int) : ByteArray := strOfNums [x % 256]
theorem oT_size (x : Int) : (oT x).size = 1 := by unfold oT; rw [strOfNums_size]; rfl
def sealT (s : ByteArray) : ByteArray × Bool := if s.size ≤ 20000 then (s ++ sumT s, true) else ((⟨#[]⟩ : ByteArray), false)
theorem implSeal (s : ByteArray) (hs : s.size ≤ 140737488351232) : Gets (fun k => impl_Sealed.f k s) (· = sealT s) := by
  refine (implSealed s hs).mono (fun r hr => ?_)
  unfold sealT
  rcases Nat.lt_or_ge 20000 s.size with h | h
  · rw [hr.2 h, if_neg (by omega)]
  · rw [hr.1 h, if_pos h]
theorem specSeal (s : ByteArray) (hs : s.size ≤ 140737488351232) : Gets (fun k => spec_Sealed.f k s) (· = sealT s) := by
  unfold spec_Sealed.f sealT
  refine Gets.ite (fun h => Gets.ret (by rw [if_neg (by omega)])) (fun h => ?_)
  refine Gets.bind (specSumOf s hs) (fun a ha => ?_)
  subst ha
  simp only [specFour, Option.bind_some]
  refine Gets.pos (by rw [strOfNums_size]; simp [four]; omega) (Gets.ret ?_)
  rw [if_pos (by omega)]; rfl
def accT (l : List Int) (s : ByteArray) : ByteArray := l.foldl (fun s n => s ++ vT n) s
theorem accT_size (l : List Int) (hl : ∀ n ∈ l, 0 ≤ n ∧ n ≤ 60) : ∀ s, (accT l s).size ≤ s.size + 10 * l.length := by
  induction l with
  | nil => intro s; simp [accT]
  | cons n l ih =>
    intro s
    have h1 := hl n (by simp)
    have h2 := vT_size (x := n) (by omega) (by omega)
    have := ih (fun x hx => hl x (by simp [hx])) (s ++ vT n)
    unfold accT at this ⊢
    rw [List.foldl_cons, List.length_cons]
    rw [ByteArray.size_append] at this
    omega
theorem goT (l : List Int) (hl : ∀ n ∈ l, 0 ≤ n ∧ n ≤ 60) : ∀ s : ByteArray, s.size + 10 * l.length ≤ 1000000 → Gets (fun k => impl_TokenText.go k l s) (· = accT l s) := by
  induction l with
  | nil => intro s _; exact Gets.ret rfl
  | cons n l ih =>
    intro s hs
    have h1 := hl n (by simp)
    have h2 := vT_size (x := n) (by omega) (by omega)
    rw [List.length_cons] at hs
    unfold impl_TokenText.go
    refine Gets.bindE (implV (by omega) (by omega)).ev (Gets.pos (by omega) ?_)
    exact ih (fun x hx => hl x (by simp [hx])) _ (by rw [ByteArray.size_append]; omega)
theorem specT_l0 (a b c d e : Int) (l : List Int) (hn : l.length ≤ 20) (hl : ∀ n ∈ l, 0 ≤ n ∧ n ≤ 60) (q : Nat) : ∀ (i : Nat) (s : ByteArray), l.length - i = q → i ≤ l.length → s.size + 10 * q ≤ 1000000 → Gets (fun k => spec_TokenText.l0 k s (i : Int) a b c d e l) (· = sealT (accT (l.drop i) s)) := by
  induction q with
  | zero =>
    intro i s hq hi hs
    refine Gets.step (fun k => spec_TokenText.l0.eq_2 ..) (Gets.neg (by omega) ?_)
    refine Gets.bind (specSeal s (by omega)) (fun t ht => Gets.ret ?_)
    subst ht
    rw [List.drop_eq_nil_of_le (by omega)]; rfl
  | succ q ih =>
    intro i s hq hi hs
    have hil : i < l.length := by omega
    have h1 := hl l[i] (List.getElem_mem hil)
    have h2 := vT_size (x := l[i]) (by omega) (by omega)
    have er : rd l (i : Int) = l[i] := by unfold rd; rw [List.getD_eq_getElem?_getD]; simp [hil]
    refine Gets.step (fun k => spec_TokenText.l0.eq_2 ..) (Gets.pos (by omega) (Gets.pos (by omega) ?_))
    rw [er]
    refine Gets.bindE (specV (by omega) (by omega)).ev (Gets.pos (by omega) ?_)
    rw [wrapId (by omega) (by omega), show (i : Int) + 1 = ((i + 1 : Nat) : Int) by omega]
    refine (ih (i + 1) _ (by omega) (by omega) (by rw [ByteArray.size_append]; omega)).mono (fun r hr => ?_)
    rw [hr, List.drop_eq_getElem_cons hil]; rfl
theorem ascI_bd {lo hi : Int} {l : List Int} : ∀ {p : Int}, ascI lo hi p l = true → ∀ n ∈ l, lo ≤ n ∧ n ≤ hi := by
  induction l with
  | nil => intro p _ n hn; cases hn
  | cons x l ih =>
    intro p h n hn
    rw [ascI_cons, Bool.and_eq_true, Bool.and_eq_true, decide_eq_true_eq] at h
    rcases List.mem_cons.1 hn with rfl | hn
    · exact h.1
    · exact ih h.2.2 n hn
def tokT (a b c d e : Int) (l : List Int) : ByteArray × Bool := if tokB a b c d e l = true then sealT (accT l (((((oT a ++ vT b) ++ vT c) ++ vT d) ++ oT e) ++ vT (l.length : Int))) else ((⟨#[]⟩ : ByteArray), false)
theorem tokB_bd {a b c d e : Int} {l : List Int} (h : tokB a b c d e l = true) : (1 ≤ b ∧ b ≤ 1000000000) ∧ (0 ≤ c ∧ c ≤ 60) ∧ (0 ≤ d ∧ d ≤ 60) ∧ l.length ≤ 20 ∧ ∀ n ∈ l, 0 ≤ n ∧ n ≤ 60 := by
  unfold tokB at h
  simp only [Bool.and_eq_true, decide_eq_true_eq] at h
  obtain ⟨⟨h1, h2, h3⟩, h4, h5, h6, h7⟩ := h
  exact ⟨h2, h3, by omega, by omega, fun n hn => by have := ascI_bd h4 n hn; omega⟩
theorem specTokenText (a b c d e : Int) (l : List Int) (hl : l.length ≤ 1048576) : Gets (fun k => spec_TokenText.f k a b c d e l) (· = tokT a b c d e l) := by
  unfold spec_TokenText.f tokT
  refine Gets.bindE (specTok a b c d e l (by omega)).ev (Gets.ite (fun h => ?_) (fun h => Gets.ret (by rw [if_neg h])))
  rw [if_pos h]
  obtain ⟨hb, hc, hd, hn, hm⟩ := tokB_bd h
  have s1 := oT_size a
  have s2 := vT_size (x := b) (by omega) (by omega)
  have s3 := vT_size (x := c) (by omega) (by omega)
  have s4 := vT_size (x := d) (by omega) (by omega)
  have s5 := oT_size e
  have s6 := vT_size (x := (l.length : Int)) (by omega) (by omega)
  have ea : spec_l05Byte.f a = some (oT a) := rfl
  have ee : spec_l05Byte.f e = some (oT e) := rfl
  rw [ea, ee]
  simp only [Option.bind_some]
  refine Gets.bindE (specV (by omega) (by omega)).ev (Gets.pos (by omega) ?_)
  refine Gets.bindE (specV (by omega) (by omega)).ev (Gets.pos (by omega) ?_)
  refine Gets.bindE (specV (by omega) (by omega)).ev (Gets.pos (by omega) (Gets.pos (by omega) ?_))
  refine Gets.bindE (specV (by omega) (by omega)).ev (Gets.pos (by omega) ?_)
  exact specT_l0 a b c d e l hn hm l.length 0 _ (by omega) (by omega) (by simp only [ByteArray.size_append]; omega)
theorem implTokenText (a b c d e : Int) (l : List Int) (hl : l.length ≤ 1048576) : Gets (fun k => impl_TokenText.f k a b c d e l) (· = tokT a b c d e l) := by
  unfold impl_TokenText.f tokT
  refine Gets.bindE (implTok a b c d e l (by omega)).ev (Gets.ite (fun h => ?_) (fun h => Gets.ret (by rw [if_neg h])))
  rw [if_pos h]
  obtain ⟨hb, hc, hd, hn, hm⟩ := tokB_bd h
  have s1 := oT_size a
  have s2 := vT_size (x := b) (by omega) (by omega)
  have s3 := vT_size (x := c) (by omega) (by omega)
  have s4 := vT_size (x := d) (by omega) (by omega)
  have s5 := oT_size e
  have s6 := vT_size (x := (l.length : Int)) (by omega) (by omega)
  have oa : ∀ x : Int, Gets (fun k => impl_octets.f k [x]) (· = oT x) := fun x => octets [x] (by simp)
  have hz := accT_size l hm (((((oT a ++ vT b) ++ vT c) ++ vT d) ++ oT e) ++ vT (l.length : Int))
  simp only [ByteArray.size_append] at hz
  refine Gets.bindE (oa a).ev (Gets.bindE (implV (by omega) (by omega)).ev (Gets.pos (by omega) ?_))
  refine Gets.bindE (implV (by omega) (by omega)).ev (Gets.pos (by omega) ?_)
  refine Gets.bindE (implV (by omega) (by omega)).ev (Gets.pos (by omega) ?_)
  refine Gets.bindE (oa e).ev (Gets.pos (by omega) ?_)
  unfold impl_TokenText.tail
  refine Gets.pos ⟨by simp only [ByteArray.size_append]; omega, by omega⟩ ?_
  refine Gets.bindE (implV (by omega) (by omega)).ev (Gets.pos (by simp only [ByteArray.size_append]; omega) ?_)
  refine Gets.bindE (goT l hm _ (by simp only [ByteArray.size_append]; omega)).ev ?_
  exact implSeal _ (by omega)
theorem FnExactTokenText : Stat.FnExactTokenText := by
  intro a b c d e l _ _ _ _ _ hl
  refine Gets.rounds ?_
  unfold laws_FnExactTokenText.f laws_szToken.f laws_toToken.f
  rw [szIntS l _ (by omega) hl.1]
  simp only [Option.bind_some]
  by_cases h : (1048576 : Int) - l.length < 0
  · simp only [h, if_true]
    simp only [show ((-1 : Int) < 0) by decide, if_true, Option.bind_some]
    exact Gets.ret rfl
  · simp only [h, if_false, Option.bind_some]
    refine Gets.bindE (a := (a, b, c, d, e, l)) (Gets.bind (Q := (· = _)) (toIntS l (by omega)) (fun t ht => Gets.ret (by rw [ht]))).ev (Gets.bindE (specTokenText a b c d e l (by omega)).ev ?_)
    refine Gets.bindE (a := (a, b, c, d, e, l)) (Gets.bind (Q := (· = _)) (toIntS l (by omega)) (fun t ht => Gets.ret (by rw [ht]))).ev (Gets.bindE (implTokenText a b c d e l (by omega)).ev ?_)
    refine Gets.pos rfl (Gets.step (fun k => laws_FnExactTokenText.j0.eq_2 ..) (Gets.neg (by simp) ?_))
    unfold laws_toToken.f
    refine Gets.bindE (a := (a, b, c, d, e, l)) (Gets.bind (Q := (· = _)) (toIntS l (by omega)) (fun t ht => Gets.ret (by rw [ht]))).ev ?_
    unfold laws_eqToken.f
    refine Gets.bind (P := fun b => b = true) (Gets.pos rfl (Gets.pos rfl (Gets.pos rfl (Gets.pos rfl (Gets.pos rfl ?_))))) (fun t ht => Gets.pos ht (Gets.ret rfl))
    exact Gets.bind (eqIntS_true l (by omega)) (fun t ht => Gets.pos ht (Gets.ret rfl))

end Go.Proofs.Ytfakkehopmihoaa.Pure
