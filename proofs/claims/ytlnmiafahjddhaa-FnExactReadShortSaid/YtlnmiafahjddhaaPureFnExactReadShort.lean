/- The program's ReadShort and the reference's answer alike at every text and place. -/
import Derived.Test.YtlnmiafahjddhaaPFnExactReadShortx2
import Derived.Lib.Strings
set_option linter.unusedVariables false
set_option linter.unusedSimpArgs false
namespace Go.Proofs.Ytlnmiafahjddhaa.Pure
open Go.RowKit Go.Proofs.Ytlnmiafahjddhaa.PFnExactReadShort Go.Proofs.YtlnmiafahjddhaaW.PrintWords Go.Proofs.YtlnmiafahjddhaaW.PrintLast

/-! ### plain words: from some number of rounds on -/
def Gets {α : Type} (f : Nat → Option α) (Q : α → Prop) : Prop := ∃ r, Ev f r ∧ Q r
theorem Gets.ret {α : Type} {Q : α → Prop} {r : α} (h : Q r) : Gets (fun _ => some r) Q := ⟨r, Ev.now r, h⟩
theorem Gets.none {α : Type} {Q : α → Prop} (h : False) : Gets (fun _ => (Option.none : Option α)) Q := h.elim
theorem Gets.step {α : Type} {g f : Nat → Option α} {Q : α → Prop} (h : ∀ k, g (k + 1) = f k) (k : Gets f Q) : Gets g Q := by
  obtain ⟨r, hr, hq⟩ := k
  exact ⟨r, Ev.step h hr, hq⟩
theorem Ev.ite {α : Type} {c : Prop} [Decidable c] {f g : Nat → Option α} {r : α} (h : c → Ev f r) (k : ¬ c → Ev g r) : Ev (fun n => if c then f n else g n) r := by
  by_cases hc : c
  · simp only [hc, if_true]; exact h hc
  · simp only [hc, if_false]; exact k hc
theorem Gets.ite {α : Type} {c : Prop} [Decidable c] {f g : Nat → Option α} {Q : α → Prop} (h : c → Gets f Q) (k : ¬ c → Gets g Q) : Gets (fun n => if c then f n else g n) Q := by
  by_cases hc : c
  · simp only [hc, if_true]; exact h hc
  · simp only [hc, if_false]; exact k hc
theorem Gets.pos {α : Type} {c : Prop} [Decidable c] {f g : Nat → Option α} {Q : α → Prop} (hc : c) (h : Gets f Q) : Gets (fun n => if c then f n else g n) Q := by
  simp only [hc, if_true]; exact h
theorem Gets.neg {α : Type} {c : Prop} [Decidable c] {f g : Nat → Option α} {Q : α → Prop} (hc : ¬ c) (h : Gets g Q) : Gets (fun n => if c then f n else g n) Q := by
  simp only [hc, if_false]; exact h
theorem Gets.bind {α β : Type} {g : Nat → Option α} {f : Nat → α → Option β} {P : α → Prop} {Q : β → Prop} (h : Gets g P) (k : ∀ a, P a → Gets (fun n => f n a) Q) : Gets (fun n => (g n).bind (f n)) Q := by
  obtain ⟨a, ha, hp⟩ := h
  obtain ⟨r, hr, hq⟩ := k a hp
  exact ⟨r, Ev.bind ha hr, hq⟩
theorem Gets.bindE {α β : Type} {g : Nat → Option α} {f : Nat → α → Option β} {a : α} {Q : β → Prop} (h : Ev g a) (k : Gets (fun n => f n a) Q) : Gets (fun n => (g n).bind (f n)) Q := by
  obtain ⟨r, hr, hq⟩ := k
  exact ⟨r, Ev.bind h hr, hq⟩
theorem Gets.mono {α : Type} {f : Nat → Option α} {P Q : α → Prop} (h : Gets f P) (k : ∀ a, P a → Q a) : Gets f Q := by
  obtain ⟨r, hr, hp⟩ := h
  exact ⟨r, hr, k r hp⟩
theorem Gets.rounds {α : Type} {f : Nat → Option α} {r : α} (h : Gets f (· = r)) : ∃ k, f k = some r := by
  obtain ⟨a, ha, rfl⟩ := h
  exact ha.rounds
theorem Gets.ev {α : Type} {f : Nat → Option α} {r : α} (h : Gets f (· = r)) : Ev f r := by
  obtain ⟨a, ha, rfl⟩ := h
  exact ha
theorem Ev.gets {α : Type} {f : Nat → Option α} {r : α} {Q : α → Prop} (h : Ev f r) (hq : Q r) : Gets f Q := ⟨r, h, hq⟩
theorem Gets.same {α : Type} {o : Option α} {Q : α → Prop} {r : α} (h : o = some r) (hq : Q r) : Gets (fun _ => o) Q := by
  subst h; exact Gets.ret hq
theorem wrapId {x : Int} (h0 : -9223372036854775808 ≤ x) (h1 : x ≤ 9223372036854775807) : wrap64 x = x := by
  unfold wrap64; omega
theorem i64_bd {n : Int} (h : (Lit.int .i64 n).wf = true) : -9223372036854775808 ≤ n ∧ n ≤ 9223372036854775807 := by
  have hm : IntKind.i64.min = -9223372036854775808 := rfl
  simp [Lit.wf, hm] at h
  exact h
theorem boolEq {a b : Bool} {P Q : Prop} (ha : a = true ↔ P) (hb : b = true ↔ Q) (h : P ↔ Q) : a = b := by
  rw [Bool.eq_iff_iff, ha, hb, h]
theorem tmod_nn {a b : Int} (h : 0 ≤ a) : Int.tmod a b = a % b := Int.tmod_eq_emod_of_nonneg h
theorem tdiv_nn {a b : Int} (h : 0 ≤ a) : Int.tdiv a b = a / b := Int.tdiv_eq_ediv_of_nonneg h

/-! ### texts as lists of numbers -/
theorem bytesOf_inj {a b : ByteArray} (h : bytesOf a = bytesOf b) : a = b := by
  have hl : a.data.toList = b.data.toList := by
    unfold bytesOf at h
    exact List.map_inj_right (fun x y hxy => UInt8.toNat_inj.1 (by exact_mod_cast hxy)) |>.1 h
  have hd : a.data = b.data := Array.toList_inj.1 hl
  cases a; cases b; cases hd; rfl
theorem toList_iff (a b : ByteArray) : a.toList = b.toList ↔ a = b := by
  rw [Lib.toList_data, Lib.toList_data]
  exact ⟨fun h => bytesOf_inj (by unfold bytesOf; rw [h]), fun h => by rw [h]⟩
theorem bytesOf_range {s : ByteArray} {x : Int} (h : x ∈ bytesOf s) : 0 ≤ x ∧ x < 256 := by
  unfold bytesOf at h
  obtain ⟨b, _, rfl⟩ := List.mem_map.1 h
  have := b.toNat_lt
  omega
theorem bytesOf_str {xs : List Int} (h : ∀ x ∈ xs, 0 ≤ x ∧ x < 256) : bytesOf (strOfNums xs) = xs := by
  unfold bytesOf
  rw [strOfNums_data, List.map_map]
  conv => rhs; rw [← List.map_id xs]
  refine List.map_congr_left (fun x hx => ?_)
  have := h x hx
  simp only [Function.comp, UInt8.toNat_ofNat', id]
  omega
theorem str_bytesOf (s : ByteArray) : strOfNums (bytesOf s) = s := bytesOf_inj (bytesOf_str (fun _ => bytesOf_range))
theorem bytesOf_extract (s : ByteArray) (a b : Nat) : bytesOf (s.extract a b) = ((bytesOf s).drop a).take (b - a) := by
  unfold bytesOf
  rw [Lib.extract_data, List.map_take, List.map_drop]
theorem bytesOf_app (a b : ByteArray) : bytesOf (a ++ b) = bytesOf a ++ bytesOf b := by
  unfold bytesOf
  rw [← List.map_append]
  congr 1
  first | done | simp
theorem bt_getD (s : ByteArray) (i : Int) : bt s i = (bytesOf s).getD i.toNat 0 := (rd_bytesOf s i).symm
theorem bytesOf_empty : bytesOf (⟨#[]⟩ : ByteArray) = [] := rfl
theorem size_eq (s : ByteArray) : s.size = (bytesOf s).length := (bytesOf_length s).symm
theorem size_app (a b : ByteArray) : (a ++ b).size = a.size + b.size := by simp

/-! ### numbers in bytes -/
def vtx (n : Nat) : List Int := if h : 127 < n then (128 + (n % 128 : Nat) : Int) :: vtx (n / 128) else [(n : Int)]
termination_by n
decreasing_by omega
theorem vtx_small {n : Nat} (h : n ≤ 127) : vtx n = [(n : Int)] := by rw [vtx, dif_neg (by omega)]
theorem vtx_big {n : Nat} (h : 127 < n) : vtx n = (128 + (n % 128 : Nat) : Int) :: vtx (n / 128) := by rw [vtx, dif_pos h]
theorem vtx_length (j : Nat) : ∀ n : Nat, n < 128 ^ (j + 1) → 1 ≤ (vtx n).length ∧ (vtx n).length ≤ j + 1 := by
  induction j with
  | zero => intro n h; rw [vtx_small (by omega)]; simp
  | succ j ih =>
    intro n h
    rcases Nat.lt_or_ge 127 n with h1 | h1
    · rw [vtx_big h1]
      have hp : (128 : Nat) ^ (j + 1 + 1) = 128 ^ (j + 1) * 128 := Nat.pow_succ ..
      have h2 : n / 128 < 128 ^ (j + 1) := by rw [Nat.div_lt_iff_lt_mul (by omega)]; omega
      have := ih _ h2
      simp only [List.length_cons]
      omega
    · rw [vtx_small h1]; simp
theorem big128 {n : Nat} (h : n ≤ 9223372036854775807) : n < 128 ^ (9 + 1) := by
  have : (128 : Nat) ^ (9 + 1) = 1180591620717411303424 := by decide
  omega

def val : List Int → Int
  | [] => 0
  | b :: l => b % 128 + 128 * val l
theorem val_bd (l : List Int) : 0 ≤ val l ∧ val l < 128 ^ l.length := by
  induction l with
  | nil => simp [val]
  | cons b l ih =>
    simp only [val, List.length_cons, Int.pow_succ]
    omega
theorem val_snoc (l : List Int) (b : Int) : val (l ++ [b]) = val l + b % 128 * 128 ^ l.length := by
  induction l with
  | nil => simp [val]
  | cons c l ih =>
    simp only [List.cons_append, val, ih, List.length_cons, Int.pow_succ]
    rw [Int.mul_add, Int.mul_left_comm 128 (b % 128), Int.mul_comm 128 (128 ^ l.length)]
    omega
theorem vtx_last (j : Nat) : ∀ n : Nat, n < 128 ^ (j + 1) → n ≠ 0 → (vtx n).getLast? ≠ some 0 := by
  induction j with
  | zero => intro n h h0; rw [vtx_small (by omega)]; simp; omega
  | succ j ih =>
    intro n h h0
    rcases Nat.lt_or_ge 127 n with h1 | h1
    · have hp : (128 : Nat) ^ (j + 1 + 1) = 128 ^ (j + 1) * 128 := Nat.pow_succ ..
      have h2 : n / 128 < 128 ^ (j + 1) := by rw [Nat.div_lt_iff_lt_mul (by omega)]; omega
      have := ih _ h2 (by omega)
      rw [vtx_big h1]
      have hl := (vtx_length j _ h2).1
      rw [List.getLast?_cons]
      intro h3
      cases h4 : (vtx (n / 128)).getLast? with
      | none => rw [List.getLast?_eq_none_iff] at h4; rw [h4] at hl; simp at hl
      | some z => rw [h4] at h3 this; exact this h3
    · rw [vtx_small h1]; simp; omega
/-- What a number's bytes come to is their number, unless the last of several is 0. -/
theorem vtx_val (pre : List Int) (b : Int) (hb : 0 ≤ b ∧ b < 128) : (∀ x ∈ pre, 128 ≤ x ∧ x < 256) → (b ≠ 0 ∨ pre = []) → vtx (val (pre ++ [b])).toNat = pre ++ [b] := by
  induction pre with
  | nil =>
    intro _ _
    simp only [List.nil_append, val]
    rw [vtx_small (by omega)]
    simp; omega
  | cons c l ih =>
    intro hp h
    have h0 : b ≠ 0 := by
      rcases h with h | h
      · exact h
      · cases h
    have hc := hp c List.mem_cons_self
    have ih' := ih (fun x hx => hp x (List.mem_cons_of_mem _ hx)) (.inl h0)
    have hv := (val_bd (l ++ [b])).1
    have hpos : 1 ≤ val (l ++ [b]) := by
      rw [val_snoc]
      have h1 := (val_bd l).1
      have h2 : (1 : Int) ≤ 128 ^ l.length := Int.pow_pos (by omega)
      have h3 : 1 * 1 ≤ b % 128 * 128 ^ l.length := Int.mul_le_mul (by omega) h2 (by omega) (by omega)
      omega
    simp only [List.cons_append, val]
    have e1 : ((c % 128 + 128 * val (l ++ [b])).toNat) / 128 = (val (l ++ [b])).toNat := by omega
    have e2 : (((c % 128 + 128 * val (l ++ [b])).toNat % 128 : Nat) : Int) = c - 128 := by omega
    rw [vtx_big (by omega), e1, e2, ih']
    congr 1
    omega
theorem vtx_val_not (pre : List Int) (hp : pre ≠ []) (hlen : pre.length ≤ 8) : vtx (val (pre ++ [0])).toNat ≠ pre ++ [0] := by
  intro h
  have hb := val_bd (pre ++ [0])
  have hpw : (128 : Int) ^ (pre ++ [0]).length ≤ 128 ^ 9 := by
    have : (pre ++ [(0 : Int)]).length ≤ 9 := by simp; omega
    exact_mod_cast Nat.pow_le_pow_right (by omega) this
  rcases Nat.eq_zero_or_pos (val (pre ++ [0])).toNat with h0 | h0
  · rw [h0, vtx_small (by omega)] at h
    have := congrArg List.length h
    simp at this
    exact hp this
  · have h9 : (128 : Int) ^ 9 = 9223372036854775808 := by decide
    refine vtx_last 9 (val (pre ++ [0])).toNat ?_ (by omega) (by rw [h]; simp)
    exact Nat.lt_of_lt_of_le (m := 9223372036854775808) (by omega) (by decide)
theorem vtx_iff (pre : List Int) (b : Int) (hb : 0 ≤ b ∧ b < 128) (hp : ∀ x ∈ pre, 128 ≤ x ∧ x < 256) (hlen : pre.length ≤ 8) : vtx (val (pre ++ [b])).toNat = pre ++ [b] ↔ ¬ (b = 0 ∧ pre ≠ []) := by
  constructor
  · rintro h ⟨rfl, hne⟩
    exact vtx_val_not pre hne hlen h
  · intro h
    refine vtx_val pre b hb hp ?_
    by_cases h0 : b = 0
    · right
      by_cases h1 : pre = []
      · exact h1
      · exact absurd ⟨h0, h1⟩ h
    · exact .inl h0
theorem vtx_range (j : Nat) : ∀ n : Nat, n < 128 ^ (j + 1) → ∀ x ∈ vtx n, 0 ≤ x ∧ x < 256 := by
  induction j with
  | zero => intro n h x hx; rw [vtx_small (by omega)] at hx; simp at hx; omega
  | succ j ih =>
    intro n h x hx
    rcases Nat.lt_or_ge 127 n with h1 | h1
    · have hp : (128 : Nat) ^ (j + 1 + 1) = 128 ^ (j + 1) * 128 := Nat.pow_succ ..
      have h2 : n / 128 < 128 ^ (j + 1) := by rw [Nat.div_lt_iff_lt_mul (by omega)]; omega
      rw [vtx_big h1] at hx
      rcases List.mem_cons.1 hx with rfl | hx
      · omega
      · exact ih _ h2 x hx
    · rw [vtx_small h1] at hx; simp at hx; omega
/-- What is read of bytes 'rest' behind 'pre'. -/
def rdv : Nat → List Int → List Int → Int → Int × Int × Bool
  | 0, _, _, _ => (0, 0, false)
  | _ + 1, [], _, _ => (0, 0, false)
  | f + 1, b :: l, pre, a => if 128 ≤ b then rdv f l (pre ++ [b]) a else if (b = 0 ∧ pre ≠ []) ∨ val (pre ++ [b]) > 1000000000 then (0, 0, false) else (val (pre ++ [b]), a + pre.length + 1, true)
theorem rdv_more {f : Nat} {b a : Int} {l pre : List Int} (h : 128 ≤ b) : rdv (f + 1) (b :: l) pre a = rdv f l (pre ++ [b]) a := by rw [rdv, if_pos h]
theorem rdv_no {f : Nat} {b a : Int} {l pre : List Int} (h : b < 128) (h2 : (b = 0 ∧ 0 < pre.length) ∨ val (pre ++ [b]) > 1000000000) : rdv (f + 1) (b :: l) pre a = (0, 0, false) := by
  rw [rdv, if_neg (by omega), if_pos (by rwa [← List.length_pos_iff])]
theorem rdv_yes {f : Nat} {b a : Int} {l pre : List Int} (h : b < 128) (h2 : ¬ (b = 0 ∧ 0 < pre.length)) (h3 : val (pre ++ [b]) ≤ 1000000000) : rdv (f + 1) (b :: l) pre a = (val (pre ++ [b]), a + pre.length + 1, true) := by
  rw [rdv, if_neg (by omega), if_neg (by rw [← List.length_pos_iff]; omega)]
theorem pw5 {i : Nat} (h : i ≤ 5) : (1 : Int) ≤ 128 ^ i ∧ (128 : Int) ^ i ≤ 34359738368 := by
  constructor
  · exact Int.pow_pos (by omega)
  · have h2 : (128 : Int) ^ i ≤ 128 ^ 5 := by exact_mod_cast Nat.pow_le_pow_right (by omega) h
    have : (128 : Int) ^ 5 = 34359738368 := by decide
    omega
theorem bt_mid {s : ByteArray} {A pre l : List Int} {b a : Int} (ha : a = A.length) (h : bytesOf s = A ++ (pre ++ b :: l)) : bt s (a + pre.length) = b := by
  rw [bt_getD, h, show (a + (pre.length : Int)).toNat = A.length + pre.length by omega, ← List.append_assoc, List.getD_eq_getElem?_getD, List.getElem?_append_right (by simp)]
  simp

theorem implRead_l0 (s : ByteArray) (hs : s.size ≤ 140737488351232) (A : List Int) (a : Int) (ha : a = A.length) (f : Nat) : ∀ pre rest : List Int, bytesOf s = A ++ (pre ++ rest) → pre.length + f = 5 →
    Gets (fun k => impl_ReadVar.l0 k s a (val pre) (128 ^ pre.length) pre.length) (· = rdv f rest pre a) := by
  induction f with
  | zero =>
    intro pre rest hb hl
    refine Gets.step (fun k => impl_ReadVar.l0.eq_2 ..) (Gets.neg (by omega) ?_)
    refine Gets.step (fun k => impl_ReadVar.j2.eq_2 ..) (Gets.neg (by simp) (Gets.ret ?_))
    simp [rdv]
  | succ f ih =>
    intro pre rest hb hl
    have hsz : (s.size : Int) = A.length + (pre.length + rest.length) := by rw [size_eq s, hb]; simp
    refine Gets.step (fun k => impl_ReadVar.l0.eq_2 ..) (Gets.pos (by omega) ?_)
    rw [wrapId (x := a + pre.length) (by omega) (by omega)]
    refine Gets.step (fun k => impl_ReadVar.j2.eq_2 ..) ?_
    cases rest with
    | nil =>
      refine Gets.neg (by simp at hsz ⊢; omega) (Gets.ret ?_)
      simp [rdv]
    | cons b l =>
      simp only [List.length_cons] at hsz
      refine Gets.pos (by simp; omega) ?_
      have hbr : 0 ≤ b ∧ b < 256 := bytesOf_range (s := s) (by rw [hb]; simp)
      have hv := val_bd pre
      have hp := pw5 (i := pre.length) (by omega)
      rw [wrapId (x := a + pre.length) (by omega) (by omega), bt_mid ha hb, wrapId (x := b) (by omega) (by omega), tmod_nn hbr.1]
      have hm : 0 * 128 ^ pre.length ≤ b % 128 * 128 ^ pre.length := Int.mul_le_mul_of_nonneg_right (by omega) (by omega)
      have hm2 : b % 128 * 128 ^ pre.length ≤ 127 * 128 ^ pre.length := Int.mul_le_mul_of_nonneg_right (by omega) (by omega)
      have hs1 := val_snoc pre b
      have hpw : (128 : Int) ^ (pre ++ [b]).length = 128 ^ pre.length * 128 := by rw [List.length_append, List.length_singleton, Int.pow_succ]
      rw [wrapId (x := b % 128 * 128 ^ pre.length) (by omega) (by omega), wrapId (x := val pre + b % 128 * 128 ^ pre.length) (by omega) (by omega), ← hs1, wrapId (x := 128 ^ pre.length * 128) (by omega) (by omega), ← hpw, wrapId (x := (pre.length : Int) + 1) (by omega) (by omega), wrapId (x := a + pre.length + 1) (by omega) (by omega)]
      refine Gets.pos (by omega) (Gets.pos (by omega) ?_)
      have hih := ih (pre ++ [b]) l (by rw [hb]; simp) (by simp; omega)
      rw [show (((pre ++ [b]).length : Nat) : Int) = pre.length + 1 by simp] at hih
      refine Gets.ite (fun h => ?_) (fun h => ?_)
      · rw [rdv_more h]; exact hih
      · repeat' (first | refine Gets.ite (fun h => ?_) (fun h => ?_) | exact Gets.ret (rdv_no (by omega) (by omega)).symm | exact Gets.ret (rdv_yes (by omega) (by omega) (by omega)).symm)
theorem implRead (s : ByteArray) (a : Int) (hs : s.size ≤ 140737488351232) : Gets (fun k => impl_ReadVar.f k s a) (fun r => (0 ≤ a → a ≤ s.size → r = rdv 5 ((bytesOf s).drop a.toNat) [] a) ∧ (¬ (0 ≤ a ∧ a ≤ s.size) → r = (0, 0, false))) := by
  unfold impl_ReadVar.f
  by_cases h : 0 ≤ a ∧ a ≤ s.size
  · refine Gets.neg (by omega) (Gets.step (fun k => impl_ReadVar.j0.eq_2 ..) (Gets.neg (by simp; omega) ?_))
    refine (implRead_l0 s hs ((bytesOf s).take a.toNat) a ?_ 5 [] ((bytesOf s).drop a.toNat) (by simp) rfl).mono (fun r hr => ⟨fun _ _ => hr, fun hn => absurd h hn⟩)
    rw [List.length_take, bytesOf_length]; omega
  · refine Gets.ite (fun h1 => ?_) (fun h1 => ?_)
    · exact Gets.step (fun k => impl_ReadVar.j0.eq_2 ..) (Gets.pos rfl (Gets.ret ⟨fun _ _ => by omega, fun _ => rfl⟩))
    · exact Gets.step (fun k => impl_ReadVar.j0.eq_2 ..) (Gets.pos (by simp; omega) (Gets.ret ⟨fun _ _ => by omega, fun _ => rfl⟩))

/-- What ReadShort answers, by what ReadVar does. -/
def rsh (s : ByteArray) (v : Int × Int × Bool) : ByteArray × Int × Bool :=
  if v.2.2 = true ∧ v.1 ≤ 20000 ∧ v.1 ≤ (s.size : Int) - v.2.1 then (s.extract v.2.1.toNat (v.2.1 + v.1).toNat, v.2.1 + v.1, true) else ((⟨#[]⟩ : ByteArray), 0, false)
/-- What is known of what ReadVar answers. -/
def rvOk (s : ByteArray) (v : Int × Int × Bool) : Prop := v.2.2 = true → 0 ≤ v.1 ∧ v.1 ≤ 1000000000 ∧ 0 ≤ v.2.1 ∧ v.2.1 ≤ s.size
theorem rdv_ok (s : ByteArray) (f : Nat) : ∀ (l pre : List Int) (a : Int), 0 ≤ a → a + pre.length + l.length ≤ s.size → rvOk s (rdv f l pre a) := by
  induction f with
  | zero => intro l pre a h0 h1 h; simp [rdv] at h
  | succ f ih =>
    intro l pre a h0 h1
    cases l with
    | nil => intro h; simp [rdv] at h
    | cons b l =>
      simp only [List.length_cons] at h1
      rcases Int.lt_or_le b 128 with h | h
      · by_cases h2 : (b = 0 ∧ 0 < pre.length) ∨ val (pre ++ [b]) > 1000000000
        · rw [rdv_no h h2]; intro h; simp at h
        · rw [rdv_yes h (by omega) (by omega)]
          have := (val_bd (pre ++ [b])).1
          intro _
          refine ⟨this, by omega, ?_, ?_⟩ <;> simp only <;> omega
      · rw [rdv_more h]
        exact ih l (pre ++ [b]) a h0 (by simp; omega)
theorem implReadShort (s : ByteArray) (a : Int) (v : Int × Int × Bool) (hs : s.size ≤ 140737488351232) (hv : Ev (fun k => impl_ReadVar.f k s a) v) (ho : rvOk s v) : Gets (fun k => impl_ReadShort.f k s a) (· = rsh s v) := by
  unfold impl_ReadShort.f
  refine Gets.bindE hv ?_
  unfold rsh
  refine Gets.ite (fun h => ?_) (fun h => Gets.ret ?_)
  · have h2 := ho h
    rw [wrapId (by omega) (by omega), wrapId (by omega) (by omega)]
    refine Gets.ite (fun h3 => Gets.ret ?_) (fun h3 => ?_)
    · rw [if_neg (by omega)]
    · refine Gets.ite (fun h4 => Gets.ret ?_) (fun h4 => ?_)
      · rw [if_neg (by omega)]
      · refine Gets.pos (by omega) (Gets.pos (by omega) (Gets.pos (by omega) (Gets.ret ?_)))
        rw [if_pos ⟨h, by omega, by omega⟩]
  · rw [if_neg (fun h2 => h h2.1)]
theorem rv_value (s : ByteArray) (a : Int) (hs : s.size ≤ 140737488351232) : ∃ v, Ev (fun k => impl_ReadVar.f k s a) v ∧ rvOk s v ∧ (0 ≤ a → a ≤ s.size → v = rdv 5 ((bytesOf s).drop a.toNat) [] a) ∧ (¬ (0 ≤ a ∧ a ≤ s.size) → v = (0, 0, false)) := by
  obtain ⟨v, hv, h1, h2⟩ := implRead s a hs
  refine ⟨v, hv, ?_, h1, h2⟩
  by_cases h : 0 ≤ a ∧ a ≤ s.size
  · rw [h1 h.1 h.2]
    refine rdv_ok s 5 _ [] a h.1 ?_
    rw [List.length_drop, bytesOf_length]; simp; omega
  · rw [h2 h]
    intro h; simp at h

theorem specVar_l0 (j : Nat) : ∀ (n : Nat) (acc : List Int), n < 128 ^ (j + 1) → acc.length + j < 1000 → n ≤ 9223372036854775807 → Gets (fun k => spec_l01Var.l0 k (n : Int) acc) (· = strOfNums (acc ++ vtx n)) := by
  induction j with
  | zero =>
    intro n acc hn hl hb
    refine Gets.step (fun k => spec_l01Var.l0.eq_2 ..) ?_
    refine Gets.neg (by omega) (Gets.pos (by omega) (Gets.ret ?_))
    rw [vtx_small (by omega), show (n : Int) % 256 = n by omega]
  | succ j ih =>
    intro n acc hn hl hb
    refine Gets.step (fun k => spec_l01Var.l0.eq_2 ..) ?_
    refine Gets.ite (fun h => Gets.pos (by omega) ?_) (fun h => Gets.pos (by omega) (Gets.ret ?_))
    · have hp : (128 : Nat) ^ (j + 1 + 1) = 128 ^ (j + 1) * 128 := Nat.pow_succ ..
      have h2 : n / 128 < 128 ^ (j + 1) := by rw [Nat.div_lt_iff_lt_mul (by omega)]; omega
      rw [tdiv_nn (by omega), tmod_nn (by omega), show ((n : Int) / 128) = ((n / 128 : Nat) : Int) by omega, wrapId (by omega) (by omega), wrapId (by omega) (by omega)]
      refine (ih (n / 128) (acc ++ [((n : Int) % 128 + 128) % 256]) h2 (by simp; omega) (by omega)).mono (fun r hr => ?_)
      rw [hr, vtx_big (n := n) (by omega), List.append_assoc, List.singleton_append, show ((n : Int) % 128 + 128) % 256 = 128 + (n % 128 : Nat) by omega]
    · rw [vtx_small (by omega), show (n : Int) % 256 = n by omega]
theorem specVar (n : Nat) (hb : n ≤ 9223372036854775807) : Gets (fun k => spec_l01Var.f k (n : Int)) (· = strOfNums (vtx n)) := by
  unfold spec_l01Var.f
  exact specVar_l0 9 n [] (big128 hb) (by simp) hb

theorem specRead_l0 (s : ByteArray) (hs : s.size ≤ 140737488351232) (A : List Int) (a : Int) (ha : a = A.length) (f : Nat) : ∀ pre rest : List Int, bytesOf s = A ++ (pre ++ rest) → (∀ x ∈ pre, 128 ≤ x ∧ x < 256) → pre.length + f = 5 →
    Gets (fun k => spec_ReadVar.l0 k s a (val pre) (128 ^ pre.length) (a + pre.length)) (· = rdv f rest pre a) := by
  induction f with
  | zero =>
    intro pre rest hb hpre hl
    have hsz : (s.size : Int) = A.length + (pre.length + rest.length) := by rw [size_eq s, hb]; simp
    refine Gets.step (fun k => spec_ReadVar.l0.eq_2 ..) ?_
    rw [wrapId (x := a + 5) (by omega) (by omega)]
    have hz : ∀ c : Bool, c = false → Gets (fun k => spec_ReadVar.j1 k s a (val pre) (128 ^ pre.length) (a + pre.length) c) (· = rdv 0 rest pre a) := fun c hc =>
      Gets.step (fun k => spec_ReadVar.j1.eq_2 ..) (Gets.neg (by rw [hc]; simp) (Gets.ret (by simp [rdv])))
    exact Gets.ite (fun _ => hz _ (decide_eq_false (by omega))) (fun _ => hz _ rfl)
  | succ f ih =>
    intro pre rest hb hpre hl
    have hsz : (s.size : Int) = A.length + (pre.length + rest.length) := by rw [size_eq s, hb]; simp
    refine Gets.step (fun k => spec_ReadVar.l0.eq_2 ..) ?_
    rw [wrapId (x := a + 5) (by omega) (by omega)]
    cases rest with
    | nil =>
      refine Gets.neg (by simp at hsz; omega) ?_
      exact Gets.step (fun k => spec_ReadVar.j1.eq_2 ..) (Gets.neg (by simp) (Gets.ret (by simp [rdv])))
    | cons b l =>
      simp only [List.length_cons] at hsz
      refine Gets.pos (by omega) (Gets.step (fun k => spec_ReadVar.j1.eq_2 ..) (Gets.pos (decide_eq_true (by omega)) (Gets.pos (by omega) (Gets.pos (by omega) ?_))))
      have hbr : 0 ≤ b ∧ b < 256 := bytesOf_range (s := s) (by rw [hb]; simp)
      have hv := val_bd pre
      have hp := pw5 (i := pre.length) (by omega)
      rw [bt_mid ha hb, wrapId (x := b) (by omega) (by omega), tmod_nn hbr.1]
      have hm : 0 * 128 ^ pre.length ≤ b % 128 * 128 ^ pre.length := Int.mul_le_mul_of_nonneg_right (by omega) (by omega)
      have hm2 : b % 128 * 128 ^ pre.length ≤ 127 * 128 ^ pre.length := Int.mul_le_mul_of_nonneg_right (by omega) (by omega)
      have hs1 := val_snoc pre b
      have hpw : (128 : Int) ^ (pre ++ [b]).length = 128 ^ pre.length * 128 := by rw [List.length_append, List.length_singleton, Int.pow_succ]
      rw [wrapId (x := b % 128 * 128 ^ pre.length) (by omega) (by omega), wrapId (x := val pre + b % 128 * 128 ^ pre.length) (by omega) (by omega), ← hs1, wrapId (x := 128 ^ pre.length * 128) (by omega) (by omega), ← hpw, wrapId (x := a + (pre.length : Int) + 1) (by omega) (by omega)]
      refine Gets.ite (fun h => ?_) (fun h => ?_)
      · refine Gets.ite (fun h2 => Gets.ret (rdv_no h (.inr h2)).symm) (fun h2 => ?_)
        have hvb := (val_bd (pre ++ [b])).1
        obtain ⟨n, hn⟩ := Int.eq_ofNat_of_zero_le hvb
        rw [hn]
        refine Gets.bind (specVar n (by omega)) (fun t ht => Gets.pos (by omega) (Gets.pos (by omega) (Gets.pos (by omega) ?_)))
        subst ht
        have hnn : n = (val (pre ++ [b])).toNat := by omega
        have hx : bytesOf (s.extract (a : Int).toNat (a + (pre.length : Int) + 1).toNat) = pre ++ [b] := by
          rw [bytesOf_extract, hb, show (a : Int).toNat = A.length by omega, show (a + (pre.length : Int) + 1).toNat - A.length = (pre ++ [b]).length by simp; omega, List.drop_left, show pre ++ b :: l = (pre ++ [b]) ++ l by simp, List.take_left]
        have hy : bytesOf (strOfNums (vtx n)) = vtx n := bytesOf_str (vtx_range 9 n (big128 (by omega)))
        have hiff : (strOfNums (vtx n)).toList = (s.extract (a : Int).toNat (a + (pre.length : Int) + 1).toNat).toList ↔ ¬ (b = 0 ∧ 0 < pre.length) := by
          rw [toList_iff, List.length_pos_iff, ← vtx_iff pre b ⟨hbr.1, h⟩ hpre (by omega), ← hnn]
          exact ⟨fun e => by rw [← hx, ← e, hy], fun e => bytesOf_inj (by rw [hx, hy, e])⟩
        refine Gets.ite (fun h3 => Gets.ret ?_) (fun h3 => Gets.ret ?_)
        · rw [rdv_yes h (hiff.1 h3) (by omega), hn]
        · rw [rdv_no h (.inl ?_)]
          exact Classical.not_not.1 (fun h4 => h3 (hiff.2 h4))
      · rw [rdv_more (by omega)]
        have hih := ih (pre ++ [b]) l (by rw [hb]; simp) (fun x hx => by
          rcases List.mem_append.1 hx with hx | hx
          · exact hpre x hx
          · simp at hx; omega) (by simp; omega)
        rwa [show a + (((pre ++ [b]).length : Nat) : Int) = a + pre.length + 1 by simp; omega] at hih
theorem specRead (s : ByteArray) (a : Int) (hs : s.size ≤ 140737488351232) : Gets (fun k => spec_ReadVar.f k s a) (fun r => (0 ≤ a → a ≤ s.size → r = rdv 5 ((bytesOf s).drop a.toNat) [] a) ∧ (¬ (0 ≤ a ∧ a ≤ s.size) → r = (0, 0, false))) := by
  unfold spec_ReadVar.f spec_l01In.f
  by_cases h : 0 ≤ a ∧ a ≤ s.size
  · rw [if_pos (by omega), decide_eq_true h.2]
    refine Gets.bind (P := fun r => r = true) (Gets.ret rfl) (fun c hc => ?_)
    subst hc
    refine Gets.pos rfl ?_
    have h0 := specRead_l0 s hs ((bytesOf s).take a.toNat) a (by rw [List.length_take, bytesOf_length]; omega) 5 [] ((bytesOf s).drop a.toNat) (by simp) (by simp) rfl
    rw [show a + ((([] : List Int).length : Nat) : Int) = a by simp] at h0
    exact h0.mono (fun r hr => ⟨fun _ _ => hr, fun hn => absurd h hn⟩)
  · refine Gets.bind (P := fun r => r = false) (Gets.ite (fun h1 => Gets.ret (decide_eq_false (by omega))) (fun h1 => Gets.ret rfl)) (fun c hc => ?_)
    subst hc
    exact Gets.neg (by simp) (Gets.ret ⟨fun _ _ => by omega, fun _ => rfl⟩)

theorem FnExactReadShort : laws_FnExactReadShort.Pure := by
  intro s a hs ha
  refine Gets.rounds ?_
  unfold laws_FnExactReadShort.f
  refine Gets.ite (fun _ => Gets.ret rfl) (fun _ => ?_)
  obtain ⟨v, hv, ho, h1, h2⟩ := rv_value s a hs
  obtain ⟨u, hu, h3, h4⟩ := specRead s a hs
  have e : u = v := by
    by_cases h : 0 ≤ a ∧ a ≤ s.size
    · rw [h1 h.1 h.2, h3 h.1 h.2]
    · rw [h2 h, h4 h]
  subst e
  have hspec : Gets (fun k => spec_ReadShort.f k s a) (· = rsh s u) := by
    unfold spec_ReadShort.f
    refine Gets.bindE hu ?_
    unfold rsh
    refine Gets.ite (fun h => ?_) (fun h => Gets.ret ?_)
    · have h2 := ho h
      rw [wrapId (by omega) (by omega), wrapId (by omega) (by omega)]
      refine Gets.ite (fun h3 => Gets.ret ?_) (fun h3 => ?_)
      · rw [if_neg (by omega)]
      · refine Gets.ite (fun h4 => Gets.ret ?_) (fun h4 => ?_)
        · rw [if_neg (by omega)]
        · refine Gets.pos (by omega) (Gets.pos (by omega) (Gets.pos (by omega) (Gets.ret ?_)))
          rw [if_pos ⟨h, by omega, by omega⟩]
    · rw [if_neg (fun h2 => h h2.1)]
  refine Gets.bindE hspec.ev (Gets.bindE (implReadShort s a u hs hv ho).ev ?_)
  exact Gets.pos rfl (Gets.pos rfl (Gets.neg (by simp) (Gets.ret rfl)))

end Go.Proofs.Ytlnmiafahjddhaa.Pure
