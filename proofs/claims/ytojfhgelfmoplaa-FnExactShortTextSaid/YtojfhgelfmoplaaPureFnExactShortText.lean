/- The program's ShortText and the reference's answer alike at every text. -/
import Derived.Test.YtojfhgelfmoplaaPFnExactShortTextx1
import Derived.Lib.Strings
set_option linter.unusedVariables false
set_option linter.unusedSimpArgs false
namespace Go.Proofs.Ytojfhgelfmoplaa.Pure
open Go.RowKit Go.Proofs.Ytojfhgelfmoplaa.PFnExactShortText Go.Proofs.YtojfhgelfmoplaaW.PrintWords Go.Proofs.YtojfhgelfmoplaaW.PrintLast

/-! ### plain words: from some number of rounds on -/
def Gets {α : Type} (f : Nat → Option α) (Q : α → Prop) : Prop := ∃ r, Ev f r ∧ Q r
theorem Gets.ret {α : Type} {Q : α → Prop} {r : α} (h : Q r) : Gets (fun _ => some r) Q := ⟨r, Ev.now r, h⟩
theorem Gets.none {α : Type} {Q : α → Prop} (h : False) : Gets (fun _ => (Option.none : Option α)) Q := h.elim
theorem Gets.step {α : Type} {g f : Nat → Option α} {Q : α → Prop} (h : ∀ k, g (k + 1) = f k) (k : Gets f Q) : Gets g Q := by
  obtain ⟨r, hr, hq⟩ := k
  exact ⟨r, Ev.step h hr, hq⟩
theorem Ev.ite {α : Type} {c : Prop} [Decidable c] {f g : Nat → Option α} {r : α} (h : c → Ev f r) (k : ¬ c → Ev g r) : Ev (fun n => if c then f n else g n) r := by
  by_cases hc : c
  · simp only [hc, if_true]; exact h hc
  · simp only [hc, if_false]; exact k hc
theorem Gets.ite {α : Type} {c : Prop} [Decidable c] {f g : Nat → Option α} {Q : α → Prop} (h : c → Gets f Q) (k : ¬ c → Gets g Q) : Gets (fun n => if c then f n else g n) Q := by
  by_cases hc : c
  · simp only [hc, if_true]; exact h hc
  · simp only [hc, if_false]; exact k hc
theorem Gets.pos {α : Type} {c : Prop} [Decidable c] {f g : Nat → Option α} {Q : α → Prop} (hc : c) (h : Gets f Q) : Gets (fun n => if c then f n else g n) Q := by
  simp only [hc, if_true]; exact h
theorem Gets.neg {α : Type} {c : Prop} [Decidable c] {f g : Nat → Option α} {Q : α → Prop} (hc : ¬ c) (h : Gets g Q) : Gets (fun n => if c then f n else g n) Q := by
  simp only [hc, if_false]; exact h
theorem Gets.bind {α β : Type} {g : Nat → Option α} {f : Nat → α → Option β} {P : α → Prop} {Q : β → Prop} (h : Gets g P) (k : ∀ a, P a → Gets (fun n => f n a) Q) : Gets (fun n => (g n).bind (f n)) Q := by
  obtain ⟨a, ha, hp⟩ := h
  obtain ⟨r, hr, hq⟩ := k a hp
  exact ⟨r, Ev.bind ha hr, hq⟩
theorem Gets.bindE {α β : Type} {g : Nat → Option α} {f : Nat → α → Option β} {a : α} {Q : β → Prop} (h : Ev g a) (k : Gets (fun n => f n a) Q) : Gets (fun n => (g n).bind (f n)) Q := by
  obtain ⟨r, hr, hq⟩ := k
  exact ⟨r, Ev.bind h hr, hq⟩
theorem Gets.mono {α : Type} {f : Nat → Option α} {P Q : α → Prop} (h : Gets f P) (k : ∀ a, P a → Q a) : Gets f Q := by
  obtain ⟨r, hr, hp⟩ := h
  exact ⟨r, hr, k r hp⟩
theorem Gets.rounds {α : Type} {f : Nat → Option α} {r : α} (h : Gets f (· = r)) : ∃ k, f k = some r := by
  obtain ⟨a, ha, rfl⟩ := h
  exact ha.rounds
theorem Gets.ev {α : Type} {f : Nat → Option α} {r : α} (h : Gets f (· = r)) : Ev f r := by
  obtain ⟨a, ha, rfl⟩ := h
  exact ha
theorem Ev.gets {α : Type} {f : Nat → Option α} {r : α} {Q : α → Prop} (h : Ev f r) (hq : Q r) : Gets f Q := ⟨r, h, hq⟩
theorem Gets.same {α : Type} {o : Option α} {Q : α → Prop} {r : α} (h : o = some r) (hq : Q r) : Gets (fun _ => o) Q := by
  subst h; exact Gets.ret hq
theorem wrapId {x : Int} (h0 : -9223372036854775808 ≤ x) (h1 : x ≤ 9223372036854775807) : wrap64 x = x := by
  unfold wrap64; omega
theorem i64_bd {n : Int} (h : (Lit.int .i64 n).wf = true) : -9223372036854775808 ≤ n ∧ n ≤ 9223372036854775807 := by
  have hm : IntKind.i64.min = -9223372036854775808 := rfl
  simp [Lit.wf, hm] at h
  exact h
theorem boolEq {a b : Bool} {P Q : Prop} (ha : a = true ↔ P) (hb : b = true ↔ Q) (h : P ↔ Q) : a = b := by
  rw [Bool.eq_iff_iff, ha, hb, h]
theorem tmod_nn {a b : Int} (h : 0 ≤ a) : Int.tmod a b = a % b := Int.tmod_eq_emod_of_nonneg h
theorem tdiv_nn {a b : Int} (h : 0 ≤ a) : Int.tdiv a b = a / b := Int.tdiv_eq_ediv_of_nonneg h

/-! ### numbers in bytes -/
def vtx (n : Nat) : List Int := if h : 127 < n then (128 + (n % 128 : Nat) : Int) :: vtx (n / 128) else [(n : Int)]
termination_by n
decreasing_by omega
theorem vtx_small {n : Nat} (h : n ≤ 127) : vtx n = [(n : Int)] := by rw [vtx, dif_neg (by omega)]
theorem vtx_big {n : Nat} (h : 127 < n) : vtx n = (128 + (n % 128 : Nat) : Int) :: vtx (n / 128) := by rw [vtx, dif_pos h]
theorem vtx_length (j : Nat) : ∀ n : Nat, n < 128 ^ (j + 1) → 1 ≤ (vtx n).length ∧ (vtx n).length ≤ j + 1 := by
  induction j with
  | zero => intro n h; rw [vtx_small (by omega)]; simp
  | succ j ih =>
    intro n h
    rcases Nat.lt_or_ge 127 n with h1 | h1
    · rw [vtx_big h1]
      have hp : (128 : Nat) ^ (j + 1 + 1) = 128 ^ (j + 1) * 128 := Nat.pow_succ ..
      have h2 : n / 128 < 128 ^ (j + 1) := by rw [Nat.div_lt_iff_lt_mul (by omega)]; omega
      have := ih _ h2
      simp only [List.length_cons]
      omega
    · rw [vtx_small h1]; simp
theorem big128 {n : Nat} (h : n ≤ 9223372036854775807) : n < 128 ^ (9 + 1) := by
  have : (128 : Nat) ^ (9 + 1) = 1180591620717411303424 := by decide
  omega

theorem implVar_l0 (j : Nat) : ∀ (n : Nat) (acc : List Int), n < 128 ^ (j + 1) → acc.length + j < 1000 → n ≤ 9223372036854775807 → Gets (fun k => impl_varText.l0 k (n : Int) acc) (· = strOfNums (acc ++ vtx n)) := by
  induction j with
  | zero =>
    intro n acc hn hl hb
    refine Gets.step (fun k => impl_varText.l0.eq_2 ..) ?_
    refine Gets.neg (by omega) (Gets.pos (by omega) (Gets.ret ?_))
    rw [vtx_small (by omega), show (n : Int) % 256 = n by omega]
  | succ j ih =>
    intro n acc hn hl hb
    refine Gets.step (fun k => impl_varText.l0.eq_2 ..) ?_
    refine Gets.ite (fun h => Gets.pos (by omega) ?_) (fun h => Gets.pos (by omega) (Gets.ret ?_))
    · have hp : (128 : Nat) ^ (j + 1 + 1) = 128 ^ (j + 1) * 128 := Nat.pow_succ ..
      have h2 : n / 128 < 128 ^ (j + 1) := by rw [Nat.div_lt_iff_lt_mul (by omega)]; omega
      rw [tdiv_nn (by omega), tmod_nn (by omega), show ((n : Int) / 128) = ((n / 128 : Nat) : Int) by omega, wrapId (by omega) (by omega), wrapId (by omega) (by omega)]
      refine (ih (n / 128) (acc ++ [(128 + (n : Int) % 128) % 256]) h2 (by simp; omega) (by omega)).mono (fun r hr => ?_)
      rw [hr, vtx_big (n := n) (by omega), List.append_assoc, List.singleton_append, show (128 + (n : Int) % 128) % 256 = 128 + (n % 128 : Nat) by omega]
    · rw [vtx_small (by omega), show (n : Int) % 256 = n by omega]
theorem implVar (n : Nat) (hb : n ≤ 9223372036854775807) : Gets (fun k => impl_varText.f k (n : Int)) (· = strOfNums (vtx n)) := by
  unfold impl_varText.f
  exact implVar_l0 9 n [] (big128 hb) (by simp) hb

theorem specVar_l0 (j : Nat) : ∀ (n : Nat) (acc : List Int), n < 128 ^ (j + 1) → acc.length + j < 1000 → n ≤ 9223372036854775807 → Gets (fun k => spec_l01Var.l0 k (n : Int) acc) (· = strOfNums (acc ++ vtx n)) := by
  induction j with
  | zero =>
    intro n acc hn hl hb
    refine Gets.step (fun k => spec_l01Var.l0.eq_2 ..) ?_
    refine Gets.neg (by omega) (Gets.pos (by omega) (Gets.ret ?_))
    rw [vtx_small (by omega), show (n : Int) % 256 = n by omega]
  | succ j ih =>
    intro n acc hn hl hb
    refine Gets.step (fun k => spec_l01Var.l0.eq_2 ..) ?_
    refine Gets.ite (fun h => Gets.pos (by omega) ?_) (fun h => Gets.pos (by omega) (Gets.ret ?_))
    · have hp : (128 : Nat) ^ (j + 1 + 1) = 128 ^ (j + 1) * 128 := Nat.pow_succ ..
      have h2 : n / 128 < 128 ^ (j + 1) := by rw [Nat.div_lt_iff_lt_mul (by omega)]; omega
      rw [tdiv_nn (by omega), tmod_nn (by omega), show ((n : Int) / 128) = ((n / 128 : Nat) : Int) by omega, wrapId (by omega) (by omega), wrapId (by omega) (by omega)]
      refine (ih (n / 128) (acc ++ [((n : Int) % 128 + 128) % 256]) h2 (by simp; omega) (by omega)).mono (fun r hr => ?_)
      rw [hr, vtx_big (n := n) (by omega), List.append_assoc, List.singleton_append, show ((n : Int) % 128 + 128) % 256 = 128 + (n % 128 : Nat) by omega]
    · rw [vtx_small (by omega), show (n : Int) % 256 = n by omega]
theorem specVar (n : Nat) (hb : n ≤ 9223372036854775807) : Gets (fun k => spec_l01Var.f k (n : Int)) (· = strOfNums (vtx n)) := by
  unfold spec_l01Var.f
  exact specVar_l0 9 n [] (big128 hb) (by simp) hb

theorem FnExactShortText : laws_FnExactShortText.Pure := by
  intro s hs
  refine Gets.rounds ?_
  unfold laws_FnExactShortText.f spec_ShortText.f impl_ShortText.f
  refine Gets.ite (fun _ => Gets.ret rfl) (fun _ => ?_)
  have hl := vtx_length 9 s.size (big128 (by omega))
  by_cases h : s.size ≤ 20000
  · refine Gets.bind (P := fun r => r = (strOfNums (vtx s.size) ++ s, true)) ?_ (fun a ha => Gets.bind (P := fun r => r = (strOfNums (vtx s.size) ++ s, true)) ?_ (fun b hb => ?_))
    · refine Gets.neg (by omega) (Gets.bind (specVar s.size (by omega)) (fun a ha => ?_))
      subst ha
      exact Gets.pos (by rw [strOfNums_size]; omega) (Gets.ret rfl)
    · refine Gets.neg (by omega) (Gets.bind (implVar s.size (by omega)) (fun a ha => ?_))
      subst ha
      exact Gets.pos (by rw [strOfNums_size]; omega) (Gets.ret rfl)
    · subst ha hb
      exact Gets.pos rfl (Gets.neg (by simp) (Gets.ret rfl))
  · refine Gets.bind (P := fun r => r = ((⟨#[]⟩ : ByteArray), false)) (Gets.pos (by omega) (Gets.ret rfl)) (fun a ha => Gets.bind (P := fun r => r = ((⟨#[]⟩ : ByteArray), false)) (Gets.pos (by omega) (Gets.ret rfl)) (fun b hb => ?_))
    subst ha hb
    exact Gets.pos rfl (Gets.neg (by simp) (Gets.ret rfl))

end Go.Proofs.Ytojfhgelfmoplaa.Pure
