/- The program's PrivateName and the reference's answer alike at every number and text, the listed tables being as the program's text lays them. -/
import Derived.Test.YtlnmiafahjddhacDoorStatFnExactPrivateName
import Derived.Lib.Strings
set_option linter.unusedVariables false
set_option linter.unusedSimpArgs false
namespace Go.Proofs.YtlnmiafahjddhacDoor.Pure
open Go.RowKit Go.Proofs.YtlnmiafahjddhacDoor.PFnExactPrivateName Go.Proofs.YtlnmiafahjddhacDoorW.PrintWords Go.Proofs.YtlnmiafahjddhacDoorW.PrintLast

/-! ### plain words: from some number of rounds on -/
def Gets {α : Type} (f : Nat → Option α) (Q : α → Prop) : Prop := ∃ r, Ev f r ∧ Q r
theorem Gets.ret {α : Type} {Q : α → Prop} {r : α} (h : Q r) : Gets (fun _ => some r) Q := ⟨r, Ev.now r, h⟩
theorem Gets.none {α : Type} {Q : α → Prop} (h : False) : Gets (fun _ => (Option.none : Option α)) Q := h.elim
theorem Gets.step {α : Type} {g f : Nat → Option α} {Q : α → Prop} (h : ∀ k, g (k + 1) = f k) (k : Gets f Q) : Gets g Q := by
  obtain ⟨r, hr, hq⟩ := k
  exact ⟨r, Ev.step h hr, hq⟩
theorem Ev.ite {α : Type} {c : Prop} [Decidable c] {f g : Nat → Option α} {r : α} (h : c → Ev f r) (k : ¬ c → Ev g r) : Ev (fun n => if c then f n else g n) r := by
  by_cases hc : c
  · simp only [hc, if_true]; exact h hc
  · simp only [hc, if_false]; exact k hc
theorem Gets.ite {α : Type} {c : Prop} [Decidable c] {f g : Nat → Option α} {Q : α → Prop} (h : c → Gets f Q) (k : ¬ c → Gets g Q) : Gets (fun n => if c then f n else g n) Q := by
  by_cases hc : c
  · simp only [hc, if_true]; exact h hc
  · simp only [hc, if_false]; exact k hc
theorem Gets.pos {α : Type} {c : Prop} [Decidable c] {f g : Nat → Option α} {Q : α → Prop} (hc : c) (h : Gets f Q) : Gets (fun n => if c then f n else g n) Q := by
  simp only [hc, if_true]; exact h
theorem Gets.neg {α : Type} {c : Prop} [Decidable c] {f g : Nat → Option α} {Q : α → Prop} (hc : ¬ c) (h : Gets g Q) : Gets (fun n => if c then f n else g n) Q := by
  simp only [hc, if_false]; exact h
theorem Gets.bind {α β : Type} {g : Nat → Option α} {f : Nat → α → Option β} {P : α → Prop} {Q : β → Prop} (h : Gets g P) (k : ∀ a, P a → Gets (fun n => f n a) Q) : Gets (fun n => (g n).bind (f n)) Q := by
  obtain ⟨a, ha, hp⟩ := h
  obtain ⟨r, hr, hq⟩ := k a hp
  exact ⟨r, Ev.bind ha hr, hq⟩
theorem Gets.bindE {α β : Type} {g : Nat → Option α} {f : Nat → α → Option β} {a : α} {Q : β → Prop} (h : Ev g a) (k : Gets (fun n => f n a) Q) : Gets (fun n => (g n).bind (f n)) Q := by
  obtain ⟨r, hr, hq⟩ := k
  exact ⟨r, Ev.bind h hr, hq⟩
theorem Gets.mono {α : Type} {f : Nat → Option α} {P Q : α → Prop} (h : Gets f P) (k : ∀ a, P a → Q a) : Gets f Q := by
  obtain ⟨r, hr, hp⟩ := h
  exact ⟨r, hr, k r hp⟩
theorem Gets.rounds {α : Type} {f : Nat → Option α} {r : α} (h : Gets f (· = r)) : ∃ k, f k = some r := by
  obtain ⟨a, ha, rfl⟩ := h
  exact ha.rounds
theorem Gets.ev {α : Type} {f : Nat → Option α} {r : α} (h : Gets f (· = r)) : Ev f r := by
  obtain ⟨a, ha, rfl⟩ := h
  exact ha
theorem Ev.gets {α : Type} {f : Nat → Option α} {r : α} {Q : α → Prop} (h : Ev f r) (hq : Q r) : Gets f Q := ⟨r, h, hq⟩
theorem Gets.same {α : Type} {o : Option α} {Q : α → Prop} {r : α} (h : o = some r) (hq : Q r) : Gets (fun _ => o) Q := by
  subst h; exact Gets.ret hq
theorem wrapId {x : Int} (h0 : -9223372036854775808 ≤ x) (h1 : x ≤ 9223372036854775807) : wrap64 x = x := by
  unfold wrap64; omega
theorem i64_bd {n : Int} (h : (Lit.int .i64 n).wf = true) : -9223372036854775808 ≤ n ∧ n ≤ 9223372036854775807 := by
  have hm : IntKind.i64.min = -9223372036854775808 := rfl
  simp [Lit.wf, hm] at h
  exact h
theorem boolEq {a b : Bool} {P Q : Prop} (ha : a = true ↔ P) (hb : b = true ↔ Q) (h : P ↔ Q) : a = b := by
  rw [Bool.eq_iff_iff, ha, hb, h]
theorem tmod_nn {a b : Int} (h : 0 ≤ a) : Int.tmod a b = a % b := Int.tmod_eq_emod_of_nonneg h
theorem tdiv_nn {a b : Int} (h : 0 ≤ a) : Int.tdiv a b = a / b := Int.tdiv_eq_ediv_of_nonneg h

/-! ### texts as lists of numbers -/
theorem bytesOf_inj {a b : ByteArray} (h : bytesOf a = bytesOf b) : a = b := by
  have hl : a.data.toList = b.data.toList := by
    unfold bytesOf at h
    exact List.map_inj_right (fun x y hxy => UInt8.toNat_inj.1 (by exact_mod_cast hxy)) |>.1 h
  have hd : a.data = b.data := Array.toList_inj.1 hl
  cases a; cases b; cases hd; rfl
theorem toList_iff (a b : ByteArray) : a.toList = b.toList ↔ a = b := by
  rw [Lib.toList_data, Lib.toList_data]
  exact ⟨fun h => bytesOf_inj (by unfold bytesOf; rw [h]), fun h => by rw [h]⟩
theorem bytesOf_range {s : ByteArray} {x : Int} (h : x ∈ bytesOf s) : 0 ≤ x ∧ x < 256 := by
  unfold bytesOf at h
  obtain ⟨b, _, rfl⟩ := List.mem_map.1 h
  have := b.toNat_lt
  omega
theorem bytesOf_str {xs : List Int} (h : ∀ x ∈ xs, 0 ≤ x ∧ x < 256) : bytesOf (strOfNums xs) = xs := by
  unfold bytesOf
  rw [strOfNums_data, List.map_map]
  conv => rhs; rw [← List.map_id xs]
  refine List.map_congr_left (fun x hx => ?_)
  have := h x hx
  simp only [Function.comp, UInt8.toNat_ofNat', id]
  omega
theorem str_bytesOf (s : ByteArray) : strOfNums (bytesOf s) = s := bytesOf_inj (bytesOf_str (fun _ => bytesOf_range))
theorem bytesOf_extract (s : ByteArray) (a b : Nat) : bytesOf (s.extract a b) = ((bytesOf s).drop a).take (b - a) := by
  unfold bytesOf
  rw [Lib.extract_data, List.map_take, List.map_drop]
theorem bytesOf_app (a b : ByteArray) : bytesOf (a ++ b) = bytesOf a ++ bytesOf b := by
  unfold bytesOf
  rw [← List.map_append]
  congr 1
  first | done | simp
theorem bt_getD (s : ByteArray) (i : Int) : bt s i = (bytesOf s).getD i.toNat 0 := (rd_bytesOf s i).symm
theorem bytesOf_empty : bytesOf (⟨#[]⟩ : ByteArray) = [] := rfl
theorem size_eq (s : ByteArray) : s.size = (bytesOf s).length := (bytesOf_length s).symm
theorem size_app (a b : ByteArray) : (a ++ b).size = a.size + b.size := by simp

def decT (n : Int) : ByteArray := ⟨(Lib.itoa n).toArray⟩
def numsU (l : List UInt8) : List Int := l.map fun b => (b.toNat : Int)
theorem bytesOf_mk (l : List UInt8) : bytesOf (⟨l.toArray⟩ : ByteArray) = numsU l := by unfold bytesOf numsU; simp
def digsU (u : Nat) : List Int := if u = 0 then [] else numsU (Lib.decDigits u)
theorem digsU_step (u : Nat) (h : u ≠ 0) : digsU u = digsU (u / 10) ++ [48 + ((u % 10 : Nat) : Int)] := by
  unfold digsU
  rw [if_neg h]
  have hb : ∀ v : Nat, v < 10 → ((UInt8.ofNat (48 + v)).toNat : Int) = 48 + (v : Int) := by
    intro v hv
    simp only [UInt8.toNat_ofNat']
    omega
  by_cases h1 : u < 10
  · rw [if_pos (by omega), Lib.decDigits_one h1]
    simp only [numsU, List.map_cons, List.map_nil, List.nil_append, hb u h1]
    rw [Nat.mod_eq_of_lt h1]
  · rw [if_neg (by omega), Lib.decDigits, dif_neg h1]
    simp only [numsU, List.map_append, List.map_cons, List.map_nil, hb (u % 10) (Nat.mod_lt _ (by omega))]
theorem digsU_range (u : Nat) : ∀ x ∈ digsU u, 0 ≤ x ∧ x < 256 := by
  intro x hx
  unfold digsU at hx
  split at hx
  · simp at hx
  · unfold numsU at hx
    obtain ⟨b, _, rfl⟩ := List.mem_map.1 hx
    have := b.toNat_lt
    omega
theorem decT_bytes (n : Int) (h : n ≠ 0) : bytesOf (decT n) = (if n < 0 then [45] else []) ++ digsU n.natAbs := by
  unfold decT digsU Lib.itoa
  rw [bytesOf_mk, if_neg (show ¬ n.natAbs = 0 by omega)]
  by_cases h1 : n < 0
  · rw [if_pos h1, if_pos h1]; rfl
  · rw [if_neg h1, if_neg h1, show n.toNat = n.natAbs by omega]; rfl
theorem decT_zero : decT 0 = (⟨#[48]⟩ : ByteArray) := bytesOf_inj (by unfold decT Lib.itoa; rw [if_neg (by omega), Int.toNat_zero, Lib.decDigits_one (by omega)]; rfl)
theorem decT_size (n : Int) (h : 0 ≤ n ∧ n < 10) : (decT n).size = 1 := by
  rw [size_eq]
  unfold decT Lib.itoa
  rw [bytesOf_mk, if_neg (show ¬ n < 0 by omega), Lib.decDigits_one (show n.toNat < 10 by omega)]
  rfl

theorem implDecimal (n : Int) (h : -9223372036854775808 ≤ n ∧ n ≤ 9223372036854775807) : impl_Decimal.f n = some (decT n) := by
  unfold impl_Decimal.f strconv_Itoa.f
  rw [if_pos h]; rfl

theorem figDec (n : Int) (h : 0 ≤ n ∧ n < 10) : spec_l01Figure.f n = some (48 + n) := by
  unfold spec_l01Figure.f
  rw [if_pos h.2, wrapId (by omega) (by omega)]; congr 1; omega
theorem specDecimal_l0 (below : Bool) (d : Nat) : ∀ (n : Int) (acc : ByteArray), n.natAbs < 10 ^ d → (-9223372036854775808 ≤ n ∧ n ≤ 9223372036854775807) → acc.size + d ≤ 1000 → Gets (fun k => spec_Decimal.l0 k n below acc) (fun r => bytesOf r = (if below = true then [45] else []) ++ (digsU n.natAbs ++ bytesOf acc)) := by
  induction d with
  | zero =>
    intro n acc hn _ ha
    have h0 : n = 0 := by simp at hn; omega
    subst h0
    refine Gets.step (fun k => spec_Decimal.l0.eq_2 ..) (Gets.pos rfl (Gets.ite (fun h => Gets.pos (by omega) (Gets.ret ?_)) (fun h => Gets.ret ?_)))
    · rw [if_pos h, bytesOf_app]; rfl
    · rw [if_neg h]; rfl
  | succ d ih =>
    intro n acc hn hb ha
    refine Gets.step (fun k => spec_Decimal.l0.eq_2 ..) (Gets.ite (fun h0 => ?_) (fun h0 => ?_))
    · subst h0
      refine Gets.ite (fun h => Gets.pos (by omega) (Gets.ret ?_)) (fun h => Gets.ret ?_)
      · rw [if_pos h, bytesOf_app]; rfl
      · rw [if_neg h]; rfl
    · have hpow : (10 : Nat) ^ (d + 1) = 10 ^ d * 10 := Nat.pow_succ ..
      have hstep := digsU_step n.natAbs (by omega)
      have main : ∀ q e : Int, q.natAbs = n.natAbs / 10 → (-9223372036854775808 ≤ q ∧ q ≤ 9223372036854775807) → e = ((n.natAbs % 10 : Nat) : Int) → Gets (fun k => if (strOfNums [48 + e]).size + acc.size ≤ 9223372036854775807 then spec_Decimal.l0 k q below (strOfNums [48 + e] ++ acc) else none) (fun r => bytesOf r = (if below = true then [45] else []) ++ (digsU n.natAbs ++ bytesOf acc)) := by
        intro q e hq hqb he
        have hs : (strOfNums [48 + e]).size = 1 := by rw [strOfNums_size]; rfl
        refine Gets.pos (by omega) ((ih q _ (by omega) hqb (by rw [size_app, hs]; omega)).mono (fun r hr => ?_))
        rw [hr, hq, hstep, bytesOf_app, bytesOf_str (by intro x hx; simp only [List.mem_singleton] at hx; omega), he]
        simp
      by_cases hneg : n < 0
      · obtain ⟨m, rfl⟩ : ∃ m : Nat, n = -(m : Int) := ⟨n.natAbs, by omega⟩
        have e1 : Int.tmod (-(m : Int)) 10 = -((m % 10 : Nat) : Int) := by rw [Int.neg_tmod, tmod_nn (by omega)]; omega
        have e2 : Int.tdiv (-(m : Int)) 10 = -((m / 10 : Nat) : Int) := by rw [Int.neg_tdiv, tdiv_nn (by omega)]; omega
        have ea : (-(m : Int)).natAbs = m := by omega
        rw [ea] at main
        rw [ea]
        simp only [e1, e2]
        refine Gets.ite (fun h => ?_) (fun h => ?_)
        · rw [wrapId (x := -(-((m % 10 : Nat) : Int))) (by omega) (by omega), figDec _ (by omega), wrapId (x := -((m / 10 : Nat) : Int)) (by omega) (by omega)]
          simp only [Option.bind_some]
          exact main _ _ (by omega) (by omega) (by omega)
        · rw [figDec _ (by omega), wrapId (x := -((m / 10 : Nat) : Int)) (by omega) (by omega)]
          simp only [Option.bind_some]
          exact main _ _ (by omega) (by omega) (by omega)
      · rw [tmod_nn (by omega), tdiv_nn (by omega)]
        refine Gets.neg (by omega) ?_
        rw [figDec _ (by omega), wrapId (by omega) (by omega)]
        simp only [Option.bind_some]
        exact main _ _ (by omega) (by omega) (by omega)
theorem specDecimal (n : Int) (h : -9223372036854775808 ≤ n ∧ n ≤ 9223372036854775807) : Gets (fun k => spec_Decimal.f k n) (· = decT n) := by
  unfold spec_Decimal.f
  refine Gets.ite (fun h0 => Gets.ret (by rw [h0, decT_zero])) (fun h0 => ?_)
  refine (specDecimal_l0 _ 20 n _ (by omega) h (by decide)).mono (fun r hr => bytesOf_inj ?_)
  rw [hr, decT_bytes n h0, bytesOf_empty, List.append_nil]
  simp only [decide_eq_true_eq]

def okAt (s : ByteArray) (j : Int) : Prop := (97 ≤ bt s j ∧ bt s j ≤ 122) ∨ (j ≠ 0 ∧ 48 ≤ bt s j ∧ bt s j ≤ 57)
def nameP (s : ByteArray) : Prop := (∀ j : Int, 0 ≤ j → j < s.size → okAt s j) ∧ 1 ≤ s.size ∧ s.size ≤ 12
theorem implName_l0 (s : ByteArray) (hs : s.size ≤ 140737488351232) (d : Nat) : ∀ i : Int, 0 ≤ i → (s.size : Int) - i = d →
    Gets (fun k => impl_NameOk.l0 k s i) (fun b => b = true ↔ (∀ j : Int, i ≤ j → j < s.size → okAt s j) ∧ 1 ≤ s.size ∧ s.size ≤ 12) := by
  induction d with
  | zero =>
    intro i h0 hd
    refine Gets.step (fun k => impl_NameOk.l0.eq_2 ..) ?_
    refine Gets.neg (by omega) ?_
    unfold impl_inRange.f
    refine Gets.bind (P := fun b => b = true ↔ 1 ≤ s.size ∧ s.size ≤ 12) ?_ (fun a ha => Gets.ret ?_)
    · refine Gets.ite (fun h => Gets.ret ?_) (fun h => Gets.ret ?_)
      · simp; omega
      · simp; omega
    · rw [ha]
      exact ⟨fun h => ⟨fun j h1 h2 => by omega, h⟩, fun h => h.2⟩
  | succ d ih =>
    intro i h0 hd
    refine Gets.step (fun k => impl_NameOk.l0.eq_2 ..) ?_
    refine Gets.pos (by omega) (Gets.pos h0 ?_)
    have hi := ih (i + 1) (by omega) (by omega)
    rw [wrapId (by omega) (by omega)]
    have yes : okAt s i → Gets (fun k => impl_NameOk.l0 k s (i + 1)) (fun b => b = true ↔ (∀ j : Int, i ≤ j → j < s.size → okAt s j) ∧ 1 ≤ s.size ∧ s.size ≤ 12) := fun ho => hi.mono (fun b hb => by
      rw [hb]
      refine ⟨fun h => ⟨fun j h1 h2 => ?_, h.2⟩, fun h => ⟨fun j h1 h2 => h.1 j (by omega) h2, h.2⟩⟩
      by_cases e : j = i
      · subst e; exact ho
      · exact h.1 j (by omega) h2)
    have no : ¬ okAt s i → Gets (fun _ => some false) (fun b => b = true ↔ (∀ j : Int, i ≤ j → j < s.size → okAt s j) ∧ 1 ≤ s.size ∧ s.size ≤ 12) := fun ho => Gets.ret (by
      simp only [Bool.false_eq_true, false_iff]
      exact fun h => ho (h.1 i (by omega) (by omega)))
    unfold okAt at yes no
    repeat' (first | refine Gets.ite (fun h => ?_) (fun h => ?_) | exact yes (by omega) | exact no (by omega))
theorem implName (s : ByteArray) (hs : s.size ≤ 140737488351232) : Gets (fun k => impl_NameOk.f k s) (fun b => b = true ↔ nameP s) := by
  unfold impl_NameOk.f
  exact implName_l0 s hs s.size 0 (by omega) (by omega)

theorem specName_l0 (s : ByteArray) (hs : s.size ≤ 140737488351232) (h1 : 1 ≤ s.size) (h2 : s.size ≤ 12) (hl : 97 ≤ bt s 0 ∧ bt s 0 ≤ 122) (d : Nat) : ∀ i : Int, 0 ≤ i → (s.size : Int) - i = d →
    Gets (fun k => spec_NameOk.l0 k s i) (fun b => b = true ↔ (∀ j : Int, i ≤ j → j < s.size → okAt s j)) := by
  induction d with
  | zero =>
    intro i h0 hd
    refine Gets.step (fun k => spec_NameOk.l0.eq_2 ..) ?_
    refine Gets.neg (by omega) (Gets.ret ?_)
    simp only [true_iff]
    exact fun j h1 h2 => by omega
  | succ d ih =>
    intro i h0 hd
    refine Gets.step (fun k => spec_NameOk.l0.eq_2 ..) ?_
    refine Gets.pos (by omega) (Gets.pos h0 ?_)
    have hi := ih (i + 1) (by omega) (by omega)
    rw [wrapId (by omega) (by omega)]
    have yes : okAt s i → Gets (fun k => spec_NameOk.l0 k s (i + 1)) (fun b => b = true ↔ (∀ j : Int, i ≤ j → j < s.size → okAt s j)) := fun ho => hi.mono (fun b hb => by
      rw [hb]
      refine ⟨fun h => fun j h1 h2 => ?_, fun h => fun j h1 h2 => h j (by omega) h2⟩
      by_cases e : j = i
      · subst e; exact ho
      · exact h j (by omega) h2)
    have no : ¬ okAt s i → Gets (fun _ => some false) (fun b => b = true ↔ (∀ j : Int, i ≤ j → j < s.size → okAt s j)) := fun ho => Gets.ret (by
      simp only [Bool.false_eq_true, false_iff]
      exact fun h => ho (h i (by omega) (by omega)))
    have z : i = 0 → 97 ≤ bt s i ∧ bt s i ≤ 122 := fun e => by subst e; exact hl
    unfold okAt at yes no
    repeat' (first | refine Gets.ite (fun h => ?_) (fun h => ?_) | exact yes (by omega) | exact no (by omega))
theorem specName_j0 (s : ByteArray) (hs : s.size ≤ 140737488351232) (c : Bool) (hc : c = false → 1 ≤ s.size ∧ s.size ≤ 12 ∧ 97 ≤ bt s 0 ∧ bt s 0 ≤ 122) (hc2 : c = true → ¬ nameP s) : Gets (fun k => spec_NameOk.j0 k s c) (fun b => b = true ↔ nameP s) := by
  refine Gets.step (fun k => spec_NameOk.j0.eq_2 ..) ?_
  refine Gets.ite (fun h => Gets.ret ?_) (fun h => ?_)
  · simp only [Bool.false_eq_true, false_iff]; exact hc2 h
  · obtain ⟨h1, h2, h3⟩ := hc (by simpa using h)
    refine (specName_l0 s hs h1 h2 h3 s.size 0 (by omega) (by omega)).mono (fun b hb => ?_)
    rw [hb]
    exact ⟨fun h => ⟨h, h1, h2⟩, fun h => h.1⟩
theorem specName (s : ByteArray) (hs : s.size ≤ 140737488351232) : Gets (fun k => spec_NameOk.f k s) (fun b => b = true ↔ nameP s) := by
  unfold spec_NameOk.f spec_l01In.f
  have hz : nameP s → 97 ≤ bt s 0 ∧ bt s 0 ≤ 122 := fun h => by
    rcases h.1 0 (by omega) (by have := h.2.1; omega) with h | h
    · exact h
    · exact absurd rfl h.1
  have hq : nameP s → 1 ≤ s.size ∧ s.size ≤ 12 := fun h => h.2
  refine Gets.bind (P := fun b => b = true ↔ 1 ≤ s.size ∧ s.size ≤ 12) ?_ (fun a ha => ?_)
  · refine Gets.ite (fun h => Gets.ret ?_) (fun h => Gets.ret ?_)
    · simp; omega
    · simp; omega
  · refine Gets.ite (fun h => ?_) (fun h => ?_)
    · have hab := ha.1 h
      refine Gets.pos (by omega) ?_
      refine Gets.ite (fun h2 => ?_) (fun h2 => ?_)
      · exact specName_j0 s hs true (by simp) (fun _ hn => by have := hz hn; omega)
      · refine specName_j0 s hs _ (fun h3 => ?_) (fun h3 hn => ?_)
        · have h3 := of_decide_eq_false h3
          omega
        · have h3 := of_decide_eq_true h3
          have := hz hn; omega
    · exact specName_j0 s hs true (by simp) (fun _ hn => h (ha.2 (hq hn)))

theorem inR (x a b : Int) : impl_inRange.f x a b = some (decide (a ≤ x ∧ x ≤ b)) := by
  unfold impl_inRange.f
  by_cases h : x ≥ a
  · rw [if_pos h]; simp [show a ≤ x from h]
  · rw [if_neg h]; simp [show ¬ a ≤ x from h]

theorem inS (x a b : Int) : spec_l01In.f x a b = some (decide (a ≤ x ∧ x ≤ b)) := by
  unfold spec_l01In.f
  by_cases h : x ≥ a
  · rw [if_pos h]; simp [show a ≤ x from h]
  · rw [if_neg h]; simp [show ¬ a ≤ x from h]

def privT (n : Int) (s : ByteArray) : ByteArray := (((⟨#[35]⟩ : ByteArray) ++ decT n) ++ (⟨#[35]⟩ : ByteArray)) ++ s
theorem one35 : (⟨#[35]⟩ : ByteArray).size = 1 := rfl
open Classical in
theorem implPriv (n : Int) (s : ByteArray) (hn : -9223372036854775808 ≤ n ∧ n ≤ 9223372036854775807) (hs : s.size ≤ 1048576) : Gets (fun k => impl_PrivateName.f k n s) (· = if (1 ≤ n ∧ n ≤ 9) ∧ nameP s then privT n s else (⟨#[]⟩ : ByteArray)) := by
  unfold impl_PrivateName.f
  rw [inR]
  simp only [Option.bind_some]
  refine Gets.ite (fun h1 => ?_) (fun h1 => Gets.ret ?_)
  · have h1 := of_decide_eq_true h1
    refine Gets.bind (implName s (by omega)) (fun b hb => Gets.ite (fun h2 => ?_) (fun h2 => Gets.ret ?_))
    · rw [implDecimal n hn]
      have hd := decT_size n (by omega)
      simp only [Option.bind_some]
      refine Gets.pos (by omega) (Gets.pos (by omega) (Gets.pos (by omega) (Gets.ret ?_)))
      rw [if_pos ⟨h1, hb.1 h2⟩]; rfl
    · rw [if_neg (fun h => h2 (hb.2 h.2))]
  · rw [if_neg (fun h => h1 (decide_eq_true h.1))]
open Classical in
theorem specPriv (n : Int) (s : ByteArray) (hn : -9223372036854775808 ≤ n ∧ n ≤ 9223372036854775807) (hs : s.size ≤ 1048576) : Gets (fun k => spec_PrivateName.f k n s) (· = if (1 ≤ n ∧ n ≤ 9) ∧ nameP s then privT n s else (⟨#[]⟩ : ByteArray)) := by
  unfold spec_PrivateName.f
  rw [inS]
  simp only [Option.bind_some]
  refine Gets.ite (fun h1 => ?_) (fun h1 => Gets.ret ?_)
  · have h1 := of_decide_eq_true h1
    refine Gets.bind (specName s (by omega)) (fun b hb => Gets.ite (fun h2 => ?_) (fun h2 => Gets.ret ?_))
    · refine Gets.bindE (specDecimal n hn).ev ?_
      have hd := decT_size n (by omega)
      refine Gets.pos (by omega) (Gets.pos (by omega) (Gets.pos (by omega) (Gets.ret ?_)))
      rw [if_pos ⟨h1, hb.1 h2⟩]; rfl
    · rw [if_neg (fun h => h2 (hb.2 h.2))]
  · rw [if_neg (fun h => h1 (decide_eq_true h.1))]
theorem FnExactPrivateName : Stat.FnExactPrivateName := by
  intro n s hn _
  have hb := i64_bd hn
  refine Gets.rounds ?_
  unfold laws_FnExactPrivateName.f
  refine Gets.ite (fun _ => Gets.ret rfl) (fun h => ?_)
  exact Gets.bindE (specPriv n s hb (by omega)).ev (Gets.bindE (implPriv n s hb (by omega)).ev (Gets.pos rfl (Gets.ret rfl)))

end Go.Proofs.YtlnmiafahjddhacDoor.Pure
