/- The program's ReadDecimal and the reference's answer alike at every text, the listed tables being as the program's text lays them. -/
import Derived.Test.YtlnmiafahjddhacDoorStatFnExactReadDecimal
import Derived.Lib.Strings
set_option linter.unusedVariables false
set_option linter.unusedSimpArgs false
namespace Go.Proofs.YtlnmiafahjddhacDoor.Pure
open Go.RowKit Go.Proofs.YtlnmiafahjddhacDoor.PFnExactReadDecimal Go.Proofs.YtlnmiafahjddhacDoorW.PrintWords Go.Proofs.YtlnmiafahjddhacDoorW.PrintLast

/-! ### plain words: from some number of rounds on -/
def Gets {α : Type} (f : Nat → Option α) (Q : α → Prop) : Prop := ∃ r, Ev f r ∧ Q r
theorem Gets.ret {α : Type} {Q : α → Prop} {r : α} (h : Q r) : Gets (fun _ => some r) Q := ⟨r, Ev.now r, h⟩
theorem Gets.none {α : Type} {Q : α → Prop} (h : False) : Gets (fun _ => (Option.none : Option α)) Q := h.elim
theorem Gets.step {α : Type} {g f : Nat → Option α} {Q : α → Prop} (h : ∀ k, g (k + 1) = f k) (k : Gets f Q) : Gets g Q := by
  obtain ⟨r, hr, hq⟩ := k
  exact ⟨r, Ev.step h hr, hq⟩
theorem Ev.ite {α : Type} {c : Prop} [Decidable c] {f g : Nat → Option α} {r : α} (h : c → Ev f r) (k : ¬ c → Ev g r) : Ev (fun n => if c then f n else g n) r := by
  by_cases hc : c
  · simp only [hc, if_true]; exact h hc
  · simp only [hc, if_false]; exact k hc
theorem Gets.ite {α : Type} {c : Prop} [Decidable c] {f g : Nat → Option α} {Q : α → Prop} (h : c → Gets f Q) (k : ¬ c → Gets g Q) : Gets (fun n => if c then f n else g n) Q := by
  by_cases hc : c
  · simp only [hc, if_true]; exact h hc
  · simp only [hc, if_false]; exact k hc
theorem Gets.pos {α : Type} {c : Prop} [Decidable c] {f g : Nat → Option α} {Q : α → Prop} (hc : c) (h : Gets f Q) : Gets (fun n => if c then f n else g n) Q := by
  simp only [hc, if_true]; exact h
theorem Gets.neg {α : Type} {c : Prop} [Decidable c] {f g : Nat → Option α} {Q : α → Prop} (hc : ¬ c) (h : Gets g Q) : Gets (fun n => if c then f n else g n) Q := by
  simp only [hc, if_false]; exact h
theorem Gets.bind {α β : Type} {g : Nat → Option α} {f : Nat → α → Option β} {P : α → Prop} {Q : β → Prop} (h : Gets g P) (k : ∀ a, P a → Gets (fun n => f n a) Q) : Gets (fun n => (g n).bind (f n)) Q := by
  obtain ⟨a, ha, hp⟩ := h
  obtain ⟨r, hr, hq⟩ := k a hp
  exact ⟨r, Ev.bind ha hr, hq⟩
theorem Gets.bindE {α β : Type} {g : Nat → Option α} {f : Nat → α → Option β} {a : α} {Q : β → Prop} (h : Ev g a) (k : Gets (fun n => f n a) Q) : Gets (fun n => (g n).bind (f n)) Q := by
  obtain ⟨r, hr, hq⟩ := k
  exact ⟨r, Ev.bind h hr, hq⟩
theorem Gets.mono {α : Type} {f : Nat → Option α} {P Q : α → Prop} (h : Gets f P) (k : ∀ a, P a → Q a) : Gets f Q := by
  obtain ⟨r, hr, hp⟩ := h
  exact ⟨r, hr, k r hp⟩
theorem Gets.rounds {α : Type} {f : Nat → Option α} {r : α} (h : Gets f (· = r)) : ∃ k, f k = some r := by
  obtain ⟨a, ha, rfl⟩ := h
  exact ha.rounds
theorem Gets.ev {α : Type} {f : Nat → Option α} {r : α} (h : Gets f (· = r)) : Ev f r := by
  obtain ⟨a, ha, rfl⟩ := h
  exact ha
theorem Ev.gets {α : Type} {f : Nat → Option α} {r : α} {Q : α → Prop} (h : Ev f r) (hq : Q r) : Gets f Q := ⟨r, h, hq⟩
theorem Gets.same {α : Type} {o : Option α} {Q : α → Prop} {r : α} (h : o = some r) (hq : Q r) : Gets (fun _ => o) Q := by
  subst h; exact Gets.ret hq
theorem wrapId {x : Int} (h0 : -9223372036854775808 ≤ x) (h1 : x ≤ 9223372036854775807) : wrap64 x = x := by
  unfold wrap64; omega
theorem i64_bd {n : Int} (h : (Lit.int .i64 n).wf = true) : -9223372036854775808 ≤ n ∧ n ≤ 9223372036854775807 := by
  have hm : IntKind.i64.min = -9223372036854775808 := rfl
  simp [Lit.wf, hm] at h
  exact h
theorem boolEq {a b : Bool} {P Q : Prop} (ha : a = true ↔ P) (hb : b = true ↔ Q) (h : P ↔ Q) : a = b := by
  rw [Bool.eq_iff_iff, ha, hb, h]
theorem tmod_nn {a b : Int} (h : 0 ≤ a) : Int.tmod a b = a % b := Int.tmod_eq_emod_of_nonneg h
theorem tdiv_nn {a b : Int} (h : 0 ≤ a) : Int.tdiv a b = a / b := Int.tdiv_eq_ediv_of_nonneg h

/-! ### texts as lists of numbers -/
theorem bytesOf_inj {a b : ByteArray} (h : bytesOf a = bytesOf b) : a = b := by
  have hl : a.data.toList = b.data.toList := by
    unfold bytesOf at h
    exact List.map_inj_right (fun x y hxy => UInt8.toNat_inj.1 (by exact_mod_cast hxy)) |>.1 h
  have hd : a.data = b.data := Array.toList_inj.1 hl
  cases a; cases b; cases hd; rfl
theorem toList_iff (a b : ByteArray) : a.toList = b.toList ↔ a = b := by
  rw [Lib.toList_data, Lib.toList_data]
  exact ⟨fun h => bytesOf_inj (by unfold bytesOf; rw [h]), fun h => by rw [h]⟩
theorem bytesOf_range {s : ByteArray} {x : Int} (h : x ∈ bytesOf s) : 0 ≤ x ∧ x < 256 := by
  unfold bytesOf at h
  obtain ⟨b, _, rfl⟩ := List.mem_map.1 h
  have := b.toNat_lt
  omega
theorem bytesOf_str {xs : List Int} (h : ∀ x ∈ xs, 0 ≤ x ∧ x < 256) : bytesOf (strOfNums xs) = xs := by
  unfold bytesOf
  rw [strOfNums_data, List.map_map]
  conv => rhs; rw [← List.map_id xs]
  refine List.map_congr_left (fun x hx => ?_)
  have := h x hx
  simp only [Function.comp, UInt8.toNat_ofNat', id]
  omega
theorem str_bytesOf (s : ByteArray) : strOfNums (bytesOf s) = s := bytesOf_inj (bytesOf_str (fun _ => bytesOf_range))
theorem bytesOf_extract (s : ByteArray) (a b : Nat) : bytesOf (s.extract a b) = ((bytesOf s).drop a).take (b - a) := by
  unfold bytesOf
  rw [Lib.extract_data, List.map_take, List.map_drop]
theorem bytesOf_app (a b : ByteArray) : bytesOf (a ++ b) = bytesOf a ++ bytesOf b := by
  unfold bytesOf
  rw [← List.map_append]
  congr 1
  first | done | simp
theorem bt_getD (s : ByteArray) (i : Int) : bt s i = (bytesOf s).getD i.toNat 0 := (rd_bytesOf s i).symm
theorem bytesOf_empty : bytesOf (⟨#[]⟩ : ByteArray) = [] := rfl
theorem size_eq (s : ByteArray) : s.size = (bytesOf s).length := (bytesOf_length s).symm
theorem size_app (a b : ByteArray) : (a ++ b).size = a.size + b.size := by simp

def decT (n : Int) : ByteArray := ⟨(Lib.itoa n).toArray⟩
def numsU (l : List UInt8) : List Int := l.map fun b => (b.toNat : Int)
theorem bytesOf_mk (l : List UInt8) : bytesOf (⟨l.toArray⟩ : ByteArray) = numsU l := by unfold bytesOf numsU; simp
def digsU (u : Nat) : List Int := if u = 0 then [] else numsU (Lib.decDigits u)
theorem digsU_step (u : Nat) (h : u ≠ 0) : digsU u = digsU (u / 10) ++ [48 + ((u % 10 : Nat) : Int)] := by
  unfold digsU
  rw [if_neg h]
  have hb : ∀ v : Nat, v < 10 → ((UInt8.ofNat (48 + v)).toNat : Int) = 48 + (v : Int) := by
    intro v hv
    simp only [UInt8.toNat_ofNat']
    omega
  by_cases h1 : u < 10
  · rw [if_pos (by omega), Lib.decDigits_one h1]
    simp only [numsU, List.map_cons, List.map_nil, List.nil_append, hb u h1]
    rw [Nat.mod_eq_of_lt h1]
  · rw [if_neg (by omega), Lib.decDigits, dif_neg h1]
    simp only [numsU, List.map_append, List.map_cons, List.map_nil, hb (u % 10) (Nat.mod_lt _ (by omega))]
theorem digsU_range (u : Nat) : ∀ x ∈ digsU u, 0 ≤ x ∧ x < 256 := by
  intro x hx
  unfold digsU at hx
  split at hx
  · simp at hx
  · unfold numsU at hx
    obtain ⟨b, _, rfl⟩ := List.mem_map.1 hx
    have := b.toNat_lt
    omega
theorem decT_bytes (n : Int) (h : n ≠ 0) : bytesOf (decT n) = (if n < 0 then [45] else []) ++ digsU n.natAbs := by
  unfold decT digsU Lib.itoa
  rw [bytesOf_mk, if_neg (show ¬ n.natAbs = 0 by omega)]
  by_cases h1 : n < 0
  · rw [if_pos h1, if_pos h1]; rfl
  · rw [if_neg h1, if_neg h1, show n.toNat = n.natAbs by omega]; rfl
theorem decT_zero : decT 0 = (⟨#[48]⟩ : ByteArray) := bytesOf_inj (by unfold decT Lib.itoa; rw [if_neg (by omega), Int.toNat_zero, Lib.decDigits_one (by omega)]; rfl)
theorem decT_size (n : Int) (h : 0 ≤ n ∧ n < 10) : (decT n).size = 1 := by
  rw [size_eq]
  unfold decT Lib.itoa
  rw [bytesOf_mk, if_neg (show ¬ n < 0 by omega), Lib.decDigits_one (show n.toNat < 10 by omega)]
  rfl

theorem implDecimal (n : Int) (h : -9223372036854775808 ≤ n ∧ n ≤ 9223372036854775807) : impl_Decimal.f n = some (decT n) := by
  unfold impl_Decimal.f strconv_Itoa.f
  rw [if_pos h]; rfl

theorem figDec (n : Int) (h : 0 ≤ n ∧ n < 10) : spec_l01Figure.f n = some (48 + n) := by
  unfold spec_l01Figure.f
  rw [if_pos h.2, wrapId (by omega) (by omega)]; congr 1; omega
theorem specDecimal_l0 (below : Bool) (d : Nat) : ∀ (n : Int) (acc : ByteArray), n.natAbs < 10 ^ d → (-9223372036854775808 ≤ n ∧ n ≤ 9223372036854775807) → acc.size + d ≤ 1000 → Gets (fun k => spec_Decimal.l0 k n below acc) (fun r => bytesOf r = (if below = true then [45] else []) ++ (digsU n.natAbs ++ bytesOf acc)) := by
  induction d with
  | zero =>
    intro n acc hn _ ha
    have h0 : n = 0 := by simp at hn; omega
    subst h0
    refine Gets.step (fun k => spec_Decimal.l0.eq_2 ..) (Gets.pos rfl (Gets.ite (fun h => Gets.pos (by omega) (Gets.ret ?_)) (fun h => Gets.ret ?_)))
    · rw [if_pos h, bytesOf_app]; rfl
    · rw [if_neg h]; rfl
  | succ d ih =>
    intro n acc hn hb ha
    refine Gets.step (fun k => spec_Decimal.l0.eq_2 ..) (Gets.ite (fun h0 => ?_) (fun h0 => ?_))
    · subst h0
      refine Gets.ite (fun h => Gets.pos (by omega) (Gets.ret ?_)) (fun h => Gets.ret ?_)
      · rw [if_pos h, bytesOf_app]; rfl
      · rw [if_neg h]; rfl
    · have hpow : (10 : Nat) ^ (d + 1) = 10 ^ d * 10 := Nat.pow_succ ..
      have hstep := digsU_step n.natAbs (by omega)
      have main : ∀ q e : Int, q.natAbs = n.natAbs / 10 → (-9223372036854775808 ≤ q ∧ q ≤ 9223372036854775807) → e = ((n.natAbs % 10 : Nat) : Int) → Gets (fun k => if (strOfNums [48 + e]).size + acc.size ≤ 9223372036854775807 then spec_Decimal.l0 k q below (strOfNums [48 + e] ++ acc) else none) (fun r => bytesOf r = (if below = true then [45] else []) ++ (digsU n.natAbs ++ bytesOf acc)) := by
        intro q e hq hqb he
        have hs : (strOfNums [48 + e]).size = 1 := by rw [strOfNums_size]; rfl
        refine Gets.pos (by omega) ((ih q _ (by omega) hqb (by rw [size_app, hs]; omega)).mono (fun r hr => ?_))
        rw [hr, hq, hstep, bytesOf_app, bytesOf_str (by intro x hx; simp only [List.mem_singleton] at hx; omega), he]
        simp
      by_cases hneg : n < 0
      · obtain ⟨m, rfl⟩ : ∃ m : Nat, n = -(m : Int) := ⟨n.natAbs, by omega⟩
        have e1 : Int.tmod (-(m : Int)) 10 = -((m % 10 : Nat) : Int) := by rw [Int.neg_tmod, tmod_nn (by omega)]; omega
        have e2 : Int.tdiv (-(m : Int)) 10 = -((m / 10 : Nat) : Int) := by rw [Int.neg_tdiv, tdiv_nn (by omega)]; omega
        have ea : (-(m : Int)).natAbs = m := by omega
        rw [ea] at main
        rw [ea]
        simp only [e1, e2]
        refine Gets.ite (fun h => ?_) (fun h => ?_)
        · rw [wrapId (x := -(-((m % 10 : Nat) : Int))) (by omega) (by omega), figDec _ (by omega), wrapId (x := -((m / 10 : Nat) : Int)) (by omega) (by omega)]
          simp only [Option.bind_some]
          exact main _ _ (by omega) (by omega) (by omega)
        · rw [figDec _ (by omega), wrapId (x := -((m / 10 : Nat) : Int)) (by omega) (by omega)]
          simp only [Option.bind_some]
          exact main _ _ (by omega) (by omega) (by omega)
      · rw [tmod_nn (by omega), tdiv_nn (by omega)]
        refine Gets.neg (by omega) ?_
        rw [figDec _ (by omega), wrapId (by omega) (by omega)]
        simp only [Option.bind_some]
        exact main _ _ (by omega) (by omega) (by omega)
theorem specDecimal (n : Int) (h : -9223372036854775808 ≤ n ∧ n ≤ 9223372036854775807) : Gets (fun k => spec_Decimal.f k n) (· = decT n) := by
  unfold spec_Decimal.f
  refine Gets.ite (fun h0 => Gets.ret (by rw [h0, decT_zero])) (fun h0 => ?_)
  refine (specDecimal_l0 _ 20 n _ (by omega) h (by decide)).mono (fun r hr => bytesOf_inj ?_)
  rw [hr, decT_bytes n h0, bytesOf_empty, List.append_nil]
  simp only [decide_eq_true_eq]

theorem bt_bd1 (s : ByteArray) (i : Int) : 0 ≤ bt s i ∧ bt s i < 256 := by
  rw [bt_getD, List.getD_eq_getElem?_getD]
  rcases h : (bytesOf s)[i.toNat]? with _ | x
  · simp
  · exact bytesOf_range (List.mem_of_getElem? h)
def rdD (s : ByteArray) : Nat → Nat → Int → Int × Bool
  | 0, _, x => if x > 1000000000 then (0, false) else if (decT x).toList = s.toList then (x, true) else (0, false)
  | d + 1, i, x => if bt s i < 48 then (0, false) else if bt s i > 57 then (0, false) else rdD s d (i + 1) (10 * x + bt s i - 48)
theorem specRd_l0 (s : ByteArray) (hs : s.size ≤ 10) (d : Nat) : ∀ (i : Nat) (x : Int), s.size - i = d → i ≤ s.size → 0 ≤ x → x < ((10 ^ i : Nat) : Int) → Gets (fun k => spec_ReadDecimal.l0 k s x (i : Int)) (· = rdD s d i x) := by
  induction d with
  | zero =>
    intro i x hd hi h0 h1
    have hp : 10 ^ i ≤ 10 ^ 10 := Nat.pow_le_pow_right (by omega) (by omega)
    refine Gets.step (fun k => spec_ReadDecimal.l0.eq_2 ..) (Gets.neg (by omega) ?_)
    unfold rdD
    refine Gets.ite (fun h => Gets.ret (by rw [if_pos h])) (fun h => ?_)
    rw [if_neg h]
    refine Gets.bindE (specDecimal x (by omega)).ev (Gets.ite (fun h => Gets.ret (by rw [if_pos h])) (fun h => Gets.ret (by rw [if_neg h])))
  | succ d ih =>
    intro i x hd hi h0 h1
    have hp : 10 ^ i ≤ 10 ^ 10 := Nat.pow_le_pow_right (by omega) (by omega)
    have hq : 10 ^ (i + 1) = 10 ^ i * 10 := Nat.pow_succ ..
    have hb := bt_bd1 s i
    refine Gets.step (fun k => spec_ReadDecimal.l0.eq_2 ..) (Gets.pos (by omega) (Gets.pos (by omega) ?_))
    unfold rdD
    refine Gets.ite (fun h => Gets.ret (by rw [if_pos h])) (fun h => ?_)
    rw [if_neg h]
    refine Gets.ite (fun h => Gets.ret (by rw [if_pos h])) (fun h' => ?_)
    rw [if_neg h']
    rw [wrapId (x := 10 * x) (by omega) (by omega), wrapId (x := bt s i) (by omega) (by omega), wrapId (x := 10 * x + bt s i) (by omega) (by omega), wrapId (x := 10 * x + bt s i - 48) (by omega) (by omega), wrapId (x := (i : Int) + 1) (by omega) (by omega), show ((i : Int) + 1) = ((i + 1 : Nat) : Int) by omega]
    exact ih (i + 1) _ (by omega) (by omega) (by omega) (by omega)
theorem implRd_l0 (s : ByteArray) (hs : s.size ≤ 10) (d : Nat) : ∀ (i : Nat) (x : Int), s.size - i = d → i ≤ s.size → 0 ≤ x → x < ((10 ^ i : Nat) : Int) → Gets (fun k => impl_ReadDecimal.l0 k s x (i : Int)) (· = rdD s d i x) := by
  induction d with
  | zero =>
    intro i x hd hi h0 h1
    have hp : 10 ^ i ≤ 10 ^ 10 := Nat.pow_le_pow_right (by omega) (by omega)
    refine Gets.step (fun k => impl_ReadDecimal.l0.eq_2 ..) (Gets.neg (by omega) ?_)
    unfold rdD
    refine Gets.ite (fun h => Gets.ret (by rw [if_pos h])) (fun h => ?_)
    rw [if_neg h, implDecimal x (by omega)]
    simp only [Option.bind_some]
    refine Gets.ite (fun h => Gets.ret (by rw [if_pos h])) (fun h => Gets.ret (by rw [if_neg h]))
  | succ d ih =>
    intro i x hd hi h0 h1
    have hp : 10 ^ i ≤ 10 ^ 10 := Nat.pow_le_pow_right (by omega) (by omega)
    have hq : 10 ^ (i + 1) = 10 ^ i * 10 := Nat.pow_succ ..
    have hb := bt_bd1 s i
    refine Gets.step (fun k => impl_ReadDecimal.l0.eq_2 ..) (Gets.pos (by omega) (Gets.pos (by omega) ?_))
    unfold rdD
    refine Gets.ite (fun h => Gets.ret (by rw [if_pos h])) (fun h => ?_)
    rw [if_neg h]
    refine Gets.ite (fun h => Gets.ret (by rw [if_pos h])) (fun h' => ?_)
    rw [if_neg h']
    rw [wrapId (x := x * 10) (by omega) (by omega), wrapId (x := x * 10 + _) (by omega) (by omega), wrapId (x := (i : Int) + 1) (by omega) (by omega), show ((i : Int) + 1) = ((i + 1 : Nat) : Int) by omega, show x * 10 + (bt s i - 48) % 256 = 10 * x + bt s i - 48 by omega]
    exact ih (i + 1) _ (by omega) (by omega) (by omega) (by omega)
def rdT (s : ByteArray) : Int × Bool := if s.size > 10 then (0, false) else rdD s s.size 0 0
theorem specRd (s : ByteArray) : Gets (fun k => spec_ReadDecimal.f k s) (· = rdT s) := by
  unfold spec_ReadDecimal.f rdT
  refine Gets.ite (fun h => Gets.ret (by rw [if_pos (by omega)])) (fun h => ?_)
  rw [if_neg (by omega)]
  exact specRd_l0 s (by omega) s.size 0 0 rfl (by omega) (by omega) (by simp)
theorem implRd (s : ByteArray) : Gets (fun k => impl_ReadDecimal.f k s) (· = rdT s) := by
  unfold impl_ReadDecimal.f
  refine Gets.ite (fun h => ?_) (fun h => ?_)
  · refine Gets.step (fun k => impl_ReadDecimal.j0.eq_2 ..) (Gets.pos rfl (Gets.ret ?_))
    unfold rdT
    rw [if_neg (by omega), show s.size = 0 by omega]
    unfold rdD
    rw [if_neg (by omega), if_neg]
    intro h1
    have h2 := (toList_iff _ _).1 h1
    have h3 := congrArg ByteArray.size h2
    rw [decT_size 0 (by omega)] at h3
    omega
  · refine Gets.step (fun k => impl_ReadDecimal.j0.eq_2 ..) (Gets.ite (fun h1 => Gets.ret ?_) (fun h1 => ?_))
    · have := of_decide_eq_true h1
      unfold rdT; rw [if_pos (by omega)]
    · have h2 : ¬ (s.size : Int) > 10 := fun h2 => h1 (decide_eq_true h2)
      unfold rdT
      rw [if_neg (by omega)]
      exact implRd_l0 s (by omega) s.size 0 0 rfl (by omega) (by omega) (by simp)
theorem FnExactReadDecimal : Stat.FnExactReadDecimal := by
  intro s _
  refine Gets.rounds ?_
  unfold laws_FnExactReadDecimal.f
  refine Gets.ite (fun _ => Gets.ret rfl) (fun _ => ?_)
  exact Gets.bindE (specRd s).ev (Gets.bindE (implRd s).ev (Gets.pos rfl (Gets.neg (by simp) (Gets.ret rfl))))

end Go.Proofs.YtlnmiafahjddhacDoor.Pure
