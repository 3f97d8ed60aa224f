/- A drawn number in 0 .. MaxNumber comes back from VarText and from Decimal, a drawn text from ShortText and Hex, the listed tables being as the program's text lays them. -/
import Derived.Test.YtlnmiafahjddhadDoorStatFnNumbers
import Derived.Lib.Strings
set_option linter.unusedVariables false
set_option linter.unusedSimpArgs false
namespace Go.Proofs.YtlnmiafahjddhadDoor.Pure
open Go.RowKit Go.Proofs.YtlnmiafahjddhadDoor.PFnNumbers Go.Proofs.YtlnmiafahjddhadDoorW.PrintWords Go.Proofs.YtlnmiafahjddhadDoorW.PrintLast

/-! ### plain words: from some number of rounds on -/
def Gets {α : Type} (f : Nat → Option α) (Q : α → Prop) : Prop := ∃ r, Ev f r ∧ Q r
theorem Gets.ret {α : Type} {Q : α → Prop} {r : α} (h : Q r) : Gets (fun _ => some r) Q := ⟨r, Ev.now r, h⟩
theorem Gets.none {α : Type} {Q : α → Prop} (h : False) : Gets (fun _ => (Option.none : Option α)) Q := h.elim
theorem Gets.step {α : Type} {g f : Nat → Option α} {Q : α → Prop} (h : ∀ k, g (k + 1) = f k) (k : Gets f Q) : Gets g Q := by
  obtain ⟨r, hr, hq⟩ := k
  exact ⟨r, Ev.step h hr, hq⟩
theorem Ev.ite {α : Type} {c : Prop} [Decidable c] {f g : Nat → Option α} {r : α} (h : c → Ev f r) (k : ¬ c → Ev g r) : Ev (fun n => if c then f n else g n) r := by
  by_cases hc : c
  · simp only [hc, if_true]; exact h hc
  · simp only [hc, if_false]; exact k hc
theorem Gets.ite {α : Type} {c : Prop} [Decidable c] {f g : Nat → Option α} {Q : α → Prop} (h : c → Gets f Q) (k : ¬ c → Gets g Q) : Gets (fun n => if c then f n else g n) Q := by
  by_cases hc : c
  · simp only [hc, if_true]; exact h hc
  · simp only [hc, if_false]; exact k hc
theorem Gets.pos {α : Type} {c : Prop} [Decidable c] {f g : Nat → Option α} {Q : α → Prop} (hc : c) (h : Gets f Q) : Gets (fun n => if c then f n else g n) Q := by
  simp only [hc, if_true]; exact h
theorem Gets.neg {α : Type} {c : Prop} [Decidable c] {f g : Nat → Option α} {Q : α → Prop} (hc : ¬ c) (h : Gets g Q) : Gets (fun n => if c then f n else g n) Q := by
  simp only [hc, if_false]; exact h
theorem Gets.bind {α β : Type} {g : Nat → Option α} {f : Nat → α → Option β} {P : α → Prop} {Q : β → Prop} (h : Gets g P) (k : ∀ a, P a → Gets (fun n => f n a) Q) : Gets (fun n => (g n).bind (f n)) Q := by
  obtain ⟨a, ha, hp⟩ := h
  obtain ⟨r, hr, hq⟩ := k a hp
  exact ⟨r, Ev.bind ha hr, hq⟩
theorem Gets.bindE {α β : Type} {g : Nat → Option α} {f : Nat → α → Option β} {a : α} {Q : β → Prop} (h : Ev g a) (k : Gets (fun n => f n a) Q) : Gets (fun n => (g n).bind (f n)) Q := by
  obtain ⟨r, hr, hq⟩ := k
  exact ⟨r, Ev.bind h hr, hq⟩
theorem Gets.mono {α : Type} {f : Nat → Option α} {P Q : α → Prop} (h : Gets f P) (k : ∀ a, P a → Q a) : Gets f Q := by
  obtain ⟨r, hr, hp⟩ := h
  exact ⟨r, hr, k r hp⟩
theorem Gets.rounds {α : Type} {f : Nat → Option α} {r : α} (h : Gets f (· = r)) : ∃ k, f k = some r := by
  obtain ⟨a, ha, rfl⟩ := h
  exact ha.rounds
theorem Gets.ev {α : Type} {f : Nat → Option α} {r : α} (h : Gets f (· = r)) : Ev f r := by
  obtain ⟨a, ha, rfl⟩ := h
  exact ha
theorem Ev.gets {α : Type} {f : Nat → Option α} {r : α} {Q : α → Prop} (h : Ev f r) (hq : Q r) : Gets f Q := ⟨r, h, hq⟩
theorem Gets.same {α : Type} {o : Option α} {Q : α → Prop} {r : α} (h : o = some r) (hq : Q r) : Gets (fun _ => o) Q := by
  subst h; exact Gets.ret hq
theorem wrapId {x : Int} (h0 : -9223372036854775808 ≤ x) (h1 : x ≤ 9223372036854775807) : wrap64 x = x := by
  unfold wrap64; omega
theorem i64_bd {n : Int} (h : (Lit.int .i64 n).wf = true) : -9223372036854775808 ≤ n ∧ n ≤ 9223372036854775807 := by
  have hm : IntKind.i64.min = -9223372036854775808 := rfl
  simp [Lit.wf, hm] at h
  exact h
theorem boolEq {a b : Bool} {P Q : Prop} (ha : a = true ↔ P) (hb : b = true ↔ Q) (h : P ↔ Q) : a = b := by
  rw [Bool.eq_iff_iff, ha, hb, h]
theorem tmod_nn {a b : Int} (h : 0 ≤ a) : Int.tmod a b = a % b := Int.tmod_eq_emod_of_nonneg h
theorem tdiv_nn {a b : Int} (h : 0 ≤ a) : Int.tdiv a b = a / b := Int.tdiv_eq_ediv_of_nonneg h

/-! ### texts as lists of numbers -/
theorem bytesOf_inj {a b : ByteArray} (h : bytesOf a = bytesOf b) : a = b := by
  have hl : a.data.toList = b.data.toList := by
    unfold bytesOf at h
    exact List.map_inj_right (fun x y hxy => UInt8.toNat_inj.1 (by exact_mod_cast hxy)) |>.1 h
  have hd : a.data = b.data := Array.toList_inj.1 hl
  cases a; cases b; cases hd; rfl
theorem toList_iff (a b : ByteArray) : a.toList = b.toList ↔ a = b := by
  rw [Lib.toList_data, Lib.toList_data]
  exact ⟨fun h => bytesOf_inj (by unfold bytesOf; rw [h]), fun h => by rw [h]⟩
theorem bytesOf_range {s : ByteArray} {x : Int} (h : x ∈ bytesOf s) : 0 ≤ x ∧ x < 256 := by
  unfold bytesOf at h
  obtain ⟨b, _, rfl⟩ := List.mem_map.1 h
  have := b.toNat_lt
  omega
theorem bytesOf_str {xs : List Int} (h : ∀ x ∈ xs, 0 ≤ x ∧ x < 256) : bytesOf (strOfNums xs) = xs := by
  unfold bytesOf
  rw [strOfNums_data, List.map_map]
  conv => rhs; rw [← List.map_id xs]
  refine List.map_congr_left (fun x hx => ?_)
  have := h x hx
  simp only [Function.comp, UInt8.toNat_ofNat', id]
  omega
theorem str_bytesOf (s : ByteArray) : strOfNums (bytesOf s) = s := bytesOf_inj (bytesOf_str (fun _ => bytesOf_range))
theorem bytesOf_extract (s : ByteArray) (a b : Nat) : bytesOf (s.extract a b) = ((bytesOf s).drop a).take (b - a) := by
  unfold bytesOf
  rw [Lib.extract_data, List.map_take, List.map_drop]
theorem bytesOf_app (a b : ByteArray) : bytesOf (a ++ b) = bytesOf a ++ bytesOf b := by
  unfold bytesOf
  rw [← List.map_append]
  congr 1
  first | done | simp
theorem bt_getD (s : ByteArray) (i : Int) : bt s i = (bytesOf s).getD i.toNat 0 := (rd_bytesOf s i).symm
theorem bytesOf_empty : bytesOf (⟨#[]⟩ : ByteArray) = [] := rfl
theorem size_eq (s : ByteArray) : s.size = (bytesOf s).length := (bytesOf_length s).symm
theorem size_app (a b : ByteArray) : (a ++ b).size = a.size + b.size := by simp

/-! ### numbers in bytes -/
def vtx (n : Nat) : List Int := if h : 127 < n then (128 + (n % 128 : Nat) : Int) :: vtx (n / 128) else [(n : Int)]
termination_by n
decreasing_by omega
theorem vtx_small {n : Nat} (h : n ≤ 127) : vtx n = [(n : Int)] := by rw [vtx, dif_neg (by omega)]
theorem vtx_big {n : Nat} (h : 127 < n) : vtx n = (128 + (n % 128 : Nat) : Int) :: vtx (n / 128) := by rw [vtx, dif_pos h]
theorem vtx_length (j : Nat) : ∀ n : Nat, n < 128 ^ (j + 1) → 1 ≤ (vtx n).length ∧ (vtx n).length ≤ j + 1 := by
  induction j with
  | zero => intro n h; rw [vtx_small (by omega)]; simp
  | succ j ih =>
    intro n h
    rcases Nat.lt_or_ge 127 n with h1 | h1
    · rw [vtx_big h1]
      have hp : (128 : Nat) ^ (j + 1 + 1) = 128 ^ (j + 1) * 128 := Nat.pow_succ ..
      have h2 : n / 128 < 128 ^ (j + 1) := by rw [Nat.div_lt_iff_lt_mul (by omega)]; omega
      have := ih _ h2
      simp only [List.length_cons]
      omega
    · rw [vtx_small h1]; simp
theorem big128 {n : Nat} (h : n ≤ 9223372036854775807) : n < 128 ^ (9 + 1) := by
  have : (128 : Nat) ^ (9 + 1) = 1180591620717411303424 := by decide
  omega

def val : List Int → Int
  | [] => 0
  | b :: l => b % 128 + 128 * val l
theorem val_bd (l : List Int) : 0 ≤ val l ∧ val l < 128 ^ l.length := by
  induction l with
  | nil => simp [val]
  | cons b l ih =>
    simp only [val, List.length_cons, Int.pow_succ]
    omega
theorem val_snoc (l : List Int) (b : Int) : val (l ++ [b]) = val l + b % 128 * 128 ^ l.length := by
  induction l with
  | nil => simp [val]
  | cons c l ih =>
    simp only [List.cons_append, val, ih, List.length_cons, Int.pow_succ]
    rw [Int.mul_add, Int.mul_left_comm 128 (b % 128), Int.mul_comm 128 (128 ^ l.length)]
    omega
theorem vtx_last (j : Nat) : ∀ n : Nat, n < 128 ^ (j + 1) → n ≠ 0 → (vtx n).getLast? ≠ some 0 := by
  induction j with
  | zero => intro n h h0; rw [vtx_small (by omega)]; simp; omega
  | succ j ih =>
    intro n h h0
    rcases Nat.lt_or_ge 127 n with h1 | h1
    · have hp : (128 : Nat) ^ (j + 1 + 1) = 128 ^ (j + 1) * 128 := Nat.pow_succ ..
      have h2 : n / 128 < 128 ^ (j + 1) := by rw [Nat.div_lt_iff_lt_mul (by omega)]; omega
      have := ih _ h2 (by omega)
      rw [vtx_big h1]
      have hl := (vtx_length j _ h2).1
      rw [List.getLast?_cons]
      intro h3
      cases h4 : (vtx (n / 128)).getLast? with
      | none => rw [List.getLast?_eq_none_iff] at h4; rw [h4] at hl; simp at hl
      | some z => rw [h4] at h3 this; exact this h3
    · rw [vtx_small h1]; simp; omega
/-- What a number's bytes come to is their number, unless the last of several is 0. -/
theorem vtx_val (pre : List Int) (b : Int) (hb : 0 ≤ b ∧ b < 128) : (∀ x ∈ pre, 128 ≤ x ∧ x < 256) → (b ≠ 0 ∨ pre = []) → vtx (val (pre ++ [b])).toNat = pre ++ [b] := by
  induction pre with
  | nil =>
    intro _ _
    simp only [List.nil_append, val]
    rw [vtx_small (by omega)]
    simp; omega
  | cons c l ih =>
    intro hp h
    have h0 : b ≠ 0 := by
      rcases h with h | h
      · exact h
      · cases h
    have hc := hp c List.mem_cons_self
    have ih' := ih (fun x hx => hp x (List.mem_cons_of_mem _ hx)) (.inl h0)
    have hv := (val_bd (l ++ [b])).1
    have hpos : 1 ≤ val (l ++ [b]) := by
      rw [val_snoc]
      have h1 := (val_bd l).1
      have h2 : (1 : Int) ≤ 128 ^ l.length := Int.pow_pos (by omega)
      have h3 : 1 * 1 ≤ b % 128 * 128 ^ l.length := Int.mul_le_mul (by omega) h2 (by omega) (by omega)
      omega
    simp only [List.cons_append, val]
    have e1 : ((c % 128 + 128 * val (l ++ [b])).toNat) / 128 = (val (l ++ [b])).toNat := by omega
    have e2 : (((c % 128 + 128 * val (l ++ [b])).toNat % 128 : Nat) : Int) = c - 128 := by omega
    rw [vtx_big (by omega), e1, e2, ih']
    congr 1
    omega
theorem vtx_val_not (pre : List Int) (hp : pre ≠ []) (hlen : pre.length ≤ 8) : vtx (val (pre ++ [0])).toNat ≠ pre ++ [0] := by
  intro h
  have hb := val_bd (pre ++ [0])
  have hpw : (128 : Int) ^ (pre ++ [0]).length ≤ 128 ^ 9 := by
    have : (pre ++ [(0 : Int)]).length ≤ 9 := by simp; omega
    exact_mod_cast Nat.pow_le_pow_right (by omega) this
  rcases Nat.eq_zero_or_pos (val (pre ++ [0])).toNat with h0 | h0
  · rw [h0, vtx_small (by omega)] at h
    have := congrArg List.length h
    simp at this
    exact hp this
  · have h9 : (128 : Int) ^ 9 = 9223372036854775808 := by decide
    refine vtx_last 9 (val (pre ++ [0])).toNat ?_ (by omega) (by rw [h]; simp)
    exact Nat.lt_of_lt_of_le (m := 9223372036854775808) (by omega) (by decide)
theorem vtx_iff (pre : List Int) (b : Int) (hb : 0 ≤ b ∧ b < 128) (hp : ∀ x ∈ pre, 128 ≤ x ∧ x < 256) (hlen : pre.length ≤ 8) : vtx (val (pre ++ [b])).toNat = pre ++ [b] ↔ ¬ (b = 0 ∧ pre ≠ []) := by
  constructor
  · rintro h ⟨rfl, hne⟩
    exact vtx_val_not pre hne hlen h
  · intro h
    refine vtx_val pre b hb hp ?_
    by_cases h0 : b = 0
    · right
      by_cases h1 : pre = []
      · exact h1
      · exact absurd ⟨h0, h1⟩ h
    · exact .inl h0
theorem vtx_range (j : Nat) : ∀ n : Nat, n < 128 ^ (j + 1) → ∀ x ∈ vtx n, 0 ≤ x ∧ x < 256 := by
  induction j with
  | zero => intro n h x hx; rw [vtx_small (by omega)] at hx; simp at hx; omega
  | succ j ih =>
    intro n h x hx
    rcases Nat.lt_or_ge 127 n with h1 | h1
    · have hp : (128 : Nat) ^ (j + 1 + 1) = 128 ^ (j + 1) * 128 := Nat.pow_succ ..
      have h2 : n / 128 < 128 ^ (j + 1) := by rw [Nat.div_lt_iff_lt_mul (by omega)]; omega
      rw [vtx_big h1] at hx
      rcases List.mem_cons.1 hx with rfl | hx
      · omega
      · exact ih _ h2 x hx
    · rw [vtx_small h1] at hx; simp at hx; omega
/-- What is read of bytes 'rest' behind 'pre'. -/
def rdv : Nat → List Int → List Int → Int → Int × Int × Bool
  | 0, _, _, _ => (0, 0, false)
  | _ + 1, [], _, _ => (0, 0, false)
  | f + 1, b :: l, pre, a => if 128 ≤ b then rdv f l (pre ++ [b]) a else if (b = 0 ∧ pre ≠ []) ∨ val (pre ++ [b]) > 1000000000 then (0, 0, false) else (val (pre ++ [b]), a + pre.length + 1, true)
theorem rdv_more {f : Nat} {b a : Int} {l pre : List Int} (h : 128 ≤ b) : rdv (f + 1) (b :: l) pre a = rdv f l (pre ++ [b]) a := by rw [rdv, if_pos h]
theorem rdv_no {f : Nat} {b a : Int} {l pre : List Int} (h : b < 128) (h2 : (b = 0 ∧ 0 < pre.length) ∨ val (pre ++ [b]) > 1000000000) : rdv (f + 1) (b :: l) pre a = (0, 0, false) := by
  rw [rdv, if_neg (by omega), if_pos (by rwa [← List.length_pos_iff])]
theorem rdv_yes {f : Nat} {b a : Int} {l pre : List Int} (h : b < 128) (h2 : ¬ (b = 0 ∧ 0 < pre.length)) (h3 : val (pre ++ [b]) ≤ 1000000000) : rdv (f + 1) (b :: l) pre a = (val (pre ++ [b]), a + pre.length + 1, true) := by
  rw [rdv, if_neg (by omega), if_neg (by rw [← List.length_pos_iff]; omega)]
theorem pw5 {i : Nat} (h : i ≤ 5) : (1 : Int) ≤ 128 ^ i ∧ (128 : Int) ^ i ≤ 34359738368 := by
  constructor
  · exact Int.pow_pos (by omega)
  · have h2 : (128 : Int) ^ i ≤ 128 ^ 5 := by exact_mod_cast Nat.pow_le_pow_right (by omega) h
    have : (128 : Int) ^ 5 = 34359738368 := by decide
    omega
theorem bt_mid {s : ByteArray} {A pre l : List Int} {b a : Int} (ha : a = A.length) (h : bytesOf s = A ++ (pre ++ b :: l)) : bt s (a + pre.length) = b := by
  rw [bt_getD, h, show (a + (pre.length : Int)).toNat = A.length + pre.length by omega, ← List.append_assoc, List.getD_eq_getElem?_getD, List.getElem?_append_right (by simp)]
  simp

def decT (n : Int) : ByteArray := ⟨(Lib.itoa n).toArray⟩
def numsU (l : List UInt8) : List Int := l.map fun b => (b.toNat : Int)
theorem bytesOf_mk (l : List UInt8) : bytesOf (⟨l.toArray⟩ : ByteArray) = numsU l := by unfold bytesOf numsU; simp
def digsU (u : Nat) : List Int := if u = 0 then [] else numsU (Lib.decDigits u)
theorem digsU_step (u : Nat) (h : u ≠ 0) : digsU u = digsU (u / 10) ++ [48 + ((u % 10 : Nat) : Int)] := by
  unfold digsU
  rw [if_neg h]
  have hb : ∀ v : Nat, v < 10 → ((UInt8.ofNat (48 + v)).toNat : Int) = 48 + (v : Int) := by
    intro v hv
    simp only [UInt8.toNat_ofNat']
    omega
  by_cases h1 : u < 10
  · rw [if_pos (by omega), Lib.decDigits_one h1]
    simp only [numsU, List.map_cons, List.map_nil, List.nil_append, hb u h1]
    rw [Nat.mod_eq_of_lt h1]
  · rw [if_neg (by omega), Lib.decDigits, dif_neg h1]
    simp only [numsU, List.map_append, List.map_cons, List.map_nil, hb (u % 10) (Nat.mod_lt _ (by omega))]
theorem digsU_range (u : Nat) : ∀ x ∈ digsU u, 0 ≤ x ∧ x < 256 := by
  intro x hx
  unfold digsU at hx
  split at hx
  · simp at hx
  · unfold numsU at hx
    obtain ⟨b, _, rfl⟩ := List.mem_map.1 hx
    have := b.toNat_lt
    omega
theorem decT_bytes (n : Int) (h : n ≠ 0) : bytesOf (decT n) = (if n < 0 then [45] else []) ++ digsU n.natAbs := by
  unfold decT digsU Lib.itoa
  rw [bytesOf_mk, if_neg (show ¬ n.natAbs = 0 by omega)]
  by_cases h1 : n < 0
  · rw [if_pos h1, if_pos h1]; rfl
  · rw [if_neg h1, if_neg h1, show n.toNat = n.natAbs by omega]; rfl
theorem decT_zero : decT 0 = (⟨#[48]⟩ : ByteArray) := bytesOf_inj (by unfold decT Lib.itoa; rw [if_neg (by omega), Int.toNat_zero, Lib.decDigits_one (by omega)]; rfl)
theorem decT_size (n : Int) (h : 0 ≤ n ∧ n < 10) : (decT n).size = 1 := by
  rw [size_eq]
  unfold decT Lib.itoa
  rw [bytesOf_mk, if_neg (show ¬ n < 0 by omega), Lib.decDigits_one (show n.toNat < 10 by omega)]
  rfl

theorem drop_atL (l : List Int) (i : Nat) (h : i < l.length) : l.drop i = l.getD i 0 :: l.drop (i + 1) := by
  rw [List.drop_eq_getElem_cons h, List.getD_eq_getElem?_getD, List.getElem?_eq_getElem h]; rfl
theorem bt_bd0 (s : ByteArray) (i : Int) : 0 ≤ bt s i ∧ bt s i < 256 := by
  rw [bt_getD, List.getD_eq_getElem?_getD]
  rcases h : (bytesOf s)[i.toNat]? with _ | x
  · simp
  · exact bytesOf_range (List.mem_of_getElem? h)
def figL (n : Int) : Int := if n < 10 then 48 + n else 87 + n
def hexL : List Int → List Int
  | [] => []
  | b :: t => figL (b / 16) :: figL (b % 16) :: hexL t
def hexT (s : ByteArray) : ByteArray × Bool := if (s.size : Int) > 20000 then ((⟨#[]⟩ : ByteArray), false) else (strOfNums (hexL (bytesOf s)), true)
def valL (b : Int) : Int := if 48 ≤ b ∧ b ≤ 57 then b - 48 else if 97 ≤ b ∧ b ≤ 102 then b - 87 else -1
theorem valL_bd (b : Int) : -1 ≤ valL b ∧ valL b < 16 := by unfold valL; split; omega; split <;> omega
def unhexT : List Int → List Int → ByteArray × Bool
  | acc, a :: b :: t => if valL a < 0 then ((⟨#[]⟩ : ByteArray), false) else if valL b < 0 then ((⟨#[]⟩ : ByteArray), false) else unhexT (acc ++ [valL a * 16 + valL b]) t
  | acc, _ => (strOfNums acc, true)

theorem val_vtx (j : Nat) : ∀ n : Nat, n < 128 ^ (j + 1) → val (vtx n) = n := by
  induction j with
  | zero => intro n h; rw [vtx_small (by omega)]; simp only [val]; omega
  | succ j ih =>
    intro n h
    rcases Nat.lt_or_ge 127 n with h1 | h1
    · have hp : (128 : Nat) ^ (j + 1 + 1) = 128 ^ (j + 1) * 128 := Nat.pow_succ ..
      have h2 : n / 128 < 128 ^ (j + 1) := by rw [Nat.div_lt_iff_lt_mul (by omega)]; omega
      rw [vtx_big h1, val, ih _ h2]; omega
    · rw [vtx_small h1]; simp only [val]; omega
theorem rdv_vtx (j : Nat) : ∀ (m f : Nat) (pre Y : List Int) (a : Int), m < 128 ^ (j + 1) → j + 1 ≤ f → (m ≠ 0 ∨ pre = []) → val (pre ++ vtx m) ≤ 1000000000 → rdv f (vtx m ++ Y) pre a = (val (pre ++ vtx m), a + pre.length + (vtx m).length, true) := by
  induction j with
  | zero =>
    intro m f pre Y a h hf h0 hv
    obtain ⟨f, rfl⟩ : ∃ g, f = g + 1 := ⟨f - 1, by omega⟩
    rw [vtx_small (by omega)] at hv ⊢
    rw [List.singleton_append, rdv_yes (by omega) (fun hh => ?_) hv]
    · simp
    · rcases h0 with h0 | h0
      · omega
      · rw [h0] at hh; simp at hh
  | succ j ih =>
    intro m f pre Y a h hf h0 hv
    obtain ⟨f, rfl⟩ : ∃ g, f = g + 1 := ⟨f - 1, by omega⟩
    rcases Nat.lt_or_ge 127 m with h1 | h1
    · have hp : (128 : Nat) ^ (j + 1 + 1) = 128 ^ (j + 1) * 128 := Nat.pow_succ ..
      have h2 : m / 128 < 128 ^ (j + 1) := by rw [Nat.div_lt_iff_lt_mul (by omega)]; omega
      rw [vtx_big h1] at hv ⊢
      have e : pre ++ (128 + (m % 128 : Nat) : Int) :: vtx (m / 128) = (pre ++ [(128 + (m % 128 : Nat) : Int)]) ++ vtx (m / 128) := by simp
      rw [e] at hv ⊢
      rw [List.cons_append, rdv_more (by omega), ih (m / 128) f _ Y a h2 (by omega) (.inl (by omega)) hv]
      simp only [List.length_append, List.length_cons, List.length_nil, Prod.mk.injEq, true_and, and_true]
      omega
    · rw [vtx_small h1] at hv ⊢
      rw [List.singleton_append, rdv_yes (by omega) (fun hh => ?_) hv]
      · simp
      · rcases h0 with h0 | h0
        · omega
        · rw [h0] at hh; simp at hh
theorem rdv_back (n : Nat) (hn : n ≤ 1000000000) (Y : List Int) (a : Int) : rdv 5 (vtx n ++ Y) [] a = ((n : Int), a + (vtx n).length, true) := by
  have hp : (128 : Nat) ^ (4 + 1) = 34359738368 := by decide
  have hv := val_vtx 4 n (by omega)
  rw [rdv_vtx 4 n 5 [] Y a (by omega) (by omega) (.inr rfl) (by rw [List.nil_append, hv]; omega), List.nil_append, hv]
  simp
theorem valF2 : ∀ n : Fin 16, valL (figL ((n.val : Nat) : Int)) = ((n.val : Nat) : Int) := by decide
theorem val_fig (n : Int) (h : 0 ≤ n ∧ n < 16) : valL (figL n) = n := by
  have := valF2 ⟨n.toNat, by omega⟩
  simpa [show ((n.toNat : Nat) : Int) = n by omega] using this
theorem unhex_hex (L : List Int) : ∀ acc : List Int, (∀ x ∈ L, 0 ≤ x ∧ x < 256) → unhexT acc (hexL L) = (strOfNums (acc ++ L), true) := by
  induction L with
  | nil => intro acc _; simp [hexL, unhexT]
  | cons b L ih =>
    intro acc h
    have hb := h b (List.mem_cons_self ..)
    rw [hexL, unhexT, val_fig _ (by omega), val_fig _ (by omega), if_neg (by omega), if_neg (by omega), ih _ (fun x hx => h x (List.mem_cons_of_mem _ hx)), show b / 16 * 16 + b % 16 = b by omega, List.append_assoc]
    rfl
theorem hexL_range (L : List Int) (h : ∀ x ∈ L, 0 ≤ x ∧ x < 256) : ∀ x ∈ hexL L, 0 ≤ x ∧ x < 256 := by
  induction L with
  | nil => simp [hexL]
  | cons b L ih =>
    have hb := h b (List.mem_cons_self ..)
    intro x hx
    rw [hexL] at hx
    rcases List.mem_cons.1 hx with rfl | hx
    · unfold figL; split <;> omega
    · rcases List.mem_cons.1 hx with rfl | hx
      · unfold figL; split <;> omega
      · exact ih (fun y hy => h y (List.mem_cons_of_mem _ hy)) x hx
theorem hexL_len (L : List Int) : (hexL L).length = 2 * L.length := by
  induction L with
  | nil => rfl
  | cons b L ih => simp [hexL, ih]; omega
/-! ### digits read back -/
def foldD (L : List Int) (x : Int) : Int := L.foldl (fun x b => 10 * x + b - 48) x
theorem digsU_ok (j : Nat) : ∀ u : Nat, u < 10 ^ j → (digsU u).length ≤ j ∧ (∀ b ∈ digsU u, 48 ≤ b ∧ b ≤ 57) ∧ foldD (digsU u) 0 = u := by
  induction j with
  | zero => intro u h; have : u = 0 := by simp at h; omega
            subst this; simp [digsU, foldD]
  | succ j ih =>
    intro u h
    by_cases h0 : u = 0
    · subst h0; simp [digsU, foldD]
    · have hp : (10 : Nat) ^ (j + 1) = 10 ^ j * 10 := Nat.pow_succ ..
      obtain ⟨h1, h2, h3⟩ := ih (u / 10) (by omega)
      rw [digsU_step u h0]
      refine ⟨by simp; omega, fun b hb => ?_, ?_⟩
      · rcases List.mem_append.1 hb with h4 | h4
        · exact h2 b h4
        · rw [List.mem_singleton.1 h4]; omega
      · unfold foldD at h3 ⊢
        rw [List.foldl_append, h3]
        simp only [List.foldl_cons, List.foldl_nil]
        omega

theorem implDecimal (n : Int) (h : -9223372036854775808 ≤ n ∧ n ≤ 9223372036854775807) : impl_Decimal.f n = some (decT n) := by
  unfold impl_Decimal.f strconv_Itoa.f
  rw [if_pos h]; rfl

theorem bt_bd1 (s : ByteArray) (i : Int) : 0 ≤ bt s i ∧ bt s i < 256 := by
  rw [bt_getD, List.getD_eq_getElem?_getD]
  rcases h : (bytesOf s)[i.toNat]? with _ | x
  · simp
  · exact bytesOf_range (List.mem_of_getElem? h)
def rdD (s : ByteArray) : Nat → Nat → Int → Int × Bool
  | 0, _, x => if x > 1000000000 then (0, false) else if (decT x).toList = s.toList then (x, true) else (0, false)
  | d + 1, i, x => if bt s i < 48 then (0, false) else if bt s i > 57 then (0, false) else rdD s d (i + 1) (10 * x + bt s i - 48)
theorem implRd_l0 (s : ByteArray) (hs : s.size ≤ 10) (d : Nat) : ∀ (i : Nat) (x : Int), s.size - i = d → i ≤ s.size → 0 ≤ x → x < ((10 ^ i : Nat) : Int) → Gets (fun k => impl_ReadDecimal.l0 k s x (i : Int)) (· = rdD s d i x) := by
  induction d with
  | zero =>
    intro i x hd hi h0 h1
    have hp : 10 ^ i ≤ 10 ^ 10 := Nat.pow_le_pow_right (by omega) (by omega)
    refine Gets.step (fun k => impl_ReadDecimal.l0.eq_2 ..) (Gets.neg (by omega) ?_)
    unfold rdD
    refine Gets.ite (fun h => Gets.ret (by rw [if_pos h])) (fun h => ?_)
    rw [if_neg h, implDecimal x (by omega)]
    simp only [Option.bind_some]
    refine Gets.ite (fun h => Gets.ret (by rw [if_pos h])) (fun h => Gets.ret (by rw [if_neg h]))
  | succ d ih =>
    intro i x hd hi h0 h1
    have hp : 10 ^ i ≤ 10 ^ 10 := Nat.pow_le_pow_right (by omega) (by omega)
    have hq : 10 ^ (i + 1) = 10 ^ i * 10 := Nat.pow_succ ..
    have hb := bt_bd1 s i
    refine Gets.step (fun k => impl_ReadDecimal.l0.eq_2 ..) (Gets.pos (by omega) (Gets.pos (by omega) ?_))
    unfold rdD
    refine Gets.ite (fun h => Gets.ret (by rw [if_pos h])) (fun h => ?_)
    rw [if_neg h]
    refine Gets.ite (fun h => Gets.ret (by rw [if_pos h])) (fun h' => ?_)
    rw [if_neg h']
    rw [wrapId (x := x * 10) (by omega) (by omega), wrapId (x := x * 10 + _) (by omega) (by omega), wrapId (x := (i : Int) + 1) (by omega) (by omega), show ((i : Int) + 1) = ((i + 1 : Nat) : Int) by omega, show x * 10 + (bt s i - 48) % 256 = 10 * x + bt s i - 48 by omega]
    exact ih (i + 1) _ (by omega) (by omega) (by omega) (by omega)
def rdT (s : ByteArray) : Int × Bool := if s.size > 10 then (0, false) else rdD s s.size 0 0
theorem implRd (s : ByteArray) : Gets (fun k => impl_ReadDecimal.f k s) (· = rdT s) := by
  unfold impl_ReadDecimal.f
  refine Gets.ite (fun h => ?_) (fun h => ?_)
  · refine Gets.step (fun k => impl_ReadDecimal.j0.eq_2 ..) (Gets.pos rfl (Gets.ret ?_))
    unfold rdT
    rw [if_neg (by omega), show s.size = 0 by omega]
    unfold rdD
    rw [if_neg (by omega), if_neg]
    intro h1
    have h2 := (toList_iff _ _).1 h1
    have h3 := congrArg ByteArray.size h2
    rw [decT_size 0 (by omega)] at h3
    omega
  · refine Gets.step (fun k => impl_ReadDecimal.j0.eq_2 ..) (Gets.ite (fun h1 => Gets.ret ?_) (fun h1 => ?_))
    · have := of_decide_eq_true h1
      unfold rdT; rw [if_pos (by omega)]
    · have h2 : ¬ (s.size : Int) > 10 := fun h2 => h1 (decide_eq_true h2)
      unfold rdT
      rw [if_neg (by omega)]
      exact implRd_l0 s (by omega) s.size 0 0 rfl (by omega) (by omega) (by simp)

theorem rdD_fold (s : ByteArray) (d : Nat) : ∀ (i : Nat) (x : Int), s.size - i = d → i ≤ s.size → (∀ b ∈ (bytesOf s).drop i, 48 ≤ b ∧ b ≤ 57) → rdD s d i x = if foldD ((bytesOf s).drop i) x > 1000000000 then (0, false) else if (decT (foldD ((bytesOf s).drop i) x)).toList = s.toList then (foldD ((bytesOf s).drop i) x, true) else (0, false) := by
  have hz := size_eq s
  induction d with
  | zero =>
    intro i x hd hi _
    rw [List.drop_of_length_le (by omega)]
    rfl
  | succ d ih =>
    intro i x hd hi hb
    have hdr : (bytesOf s).drop i = bt s i :: (bytesOf s).drop (i + 1) := by rw [drop_atL _ i (by omega), bt_getD]; simp
    have h1 := hb (bt s i) (by rw [hdr]; exact List.mem_cons_self ..)
    unfold rdD
    rw [if_neg (by omega), if_neg (by omega), ih (i + 1) _ (by omega) (by omega) (fun b h => hb b (by rw [hdr]; exact List.mem_cons_of_mem _ h)), hdr]
    rfl
theorem decT_digs (n : Nat) (hn : n ≤ 1000000000) : (decT (n : Int)).size ≤ 10 ∧ (∀ b ∈ bytesOf (decT (n : Int)), 48 ≤ b ∧ b ≤ 57) ∧ foldD (bytesOf (decT (n : Int))) 0 = n := by
  by_cases h0 : n = 0
  · subst h0
    rw [show ((0 : Nat) : Int) = 0 from rfl, decT_zero]
    have e : bytesOf (⟨#[48]⟩ : ByteArray) = [48] := rfl
    rw [size_eq, e]; simp [foldD]
  · obtain ⟨h1, h2, h3⟩ := digsU_ok 10 n (by omega)
    have e : bytesOf (decT (n : Int)) = digsU n := by
      rw [decT_bytes _ (by omega), if_neg (by omega), List.nil_append]; congr 1
    rw [size_eq, e]
    exact ⟨h1, h2, h3⟩
theorem rdT_back (n : Nat) (hn : n ≤ 1000000000) : rdT (decT (n : Int)) = ((n : Int), true) := by
  obtain ⟨h1, h2, h3⟩ := decT_digs n hn
  unfold rdT
  rw [if_neg (by omega), rdD_fold _ (decT (n : Int)).size 0 0 (by omega) (by omega) (by simpa using h2), List.drop_zero, h3, if_neg (by omega), if_pos rfl]

theorem digF : ∀ n : Fin 16, bt (⟨#[48, 49, 50, 51, 52, 53, 54, 55, 56, 57, 97, 98, 99, 100, 101, 102]⟩ : ByteArray) ((n.val : Nat) : Int) = figL ((n.val : Nat) : Int) := by decide
theorem dig (n : Int) (h : 0 ≤ n ∧ n < 16) : bt (⟨#[48, 49, 50, 51, 52, 53, 54, 55, 56, 57, 97, 98, 99, 100, 101, 102]⟩ : ByteArray) n = figL n := by
  have := digF ⟨n.toNat, by omega⟩
  simpa [show ((n.toNat : Nat) : Int) = n by omega] using this
set_option maxRecDepth 20000 in
theorem and15F : ∀ n : Fin 256, Go.bits .and .u8 ((n.val : Nat) : Int) 15 = ((n.val : Nat) : Int) % 16 := by decide
theorem and15 (n : Int) (h : 0 ≤ n ∧ n < 256) : Go.bits .and .u8 n 15 = n % 16 := by
  have := and15F ⟨n.toNat, by omega⟩
  simpa [show ((n.toNat : Nat) : Int) = n by omega] using this
theorem implHex_l0 (s : ByteArray) (hs : s.size ≤ 20000) (d : Nat) : ∀ (i : Nat) (acc : List Int), s.size - i = d → i ≤ s.size → acc.length ≤ 2 * i → Gets (fun k => impl_Hex.l0 k s (⟨#[48, 49, 50, 51, 52, 53, 54, 55, 56, 57, 97, 98, 99, 100, 101, 102]⟩ : ByteArray) acc (i : Int)) (· = (strOfNums (acc ++ hexL ((bytesOf s).drop i)), true)) := by
  have hz := size_eq s
  have h16 : (⟨#[48, 49, 50, 51, 52, 53, 54, 55, 56, 57, 97, 98, 99, 100, 101, 102]⟩ : ByteArray).size = 16 := rfl
  induction d with
  | zero =>
    intro i acc hd hi ha
    refine Gets.step (fun k => impl_Hex.l0.eq_2 ..) (Gets.neg (by omega) (Gets.ret ?_))
    rw [List.drop_of_length_le (by omega)]; simp [hexL]
  | succ d ih =>
    intro i acc hd hi ha
    refine Gets.step (fun k => impl_Hex.l0.eq_2 ..) (Gets.pos (by omega) (Gets.pos (by omega) ?_))
    have hb := bt_bd0 s i
    rw [and15 _ hb, dig _ (by omega), dig _ (by omega)]
    refine Gets.pos (by omega) (Gets.pos (by rw [h16]; omega) (Gets.pos (by omega) (Gets.pos (by rw [h16]; omega) ?_)))
    simp only [Option.bind_some]
    refine Gets.pos (by simp; omega) ?_
    rw [wrapId (by omega) (by omega), show ((i : Int) + 1) = ((i + 1 : Nat) : Int) by omega]
    refine (ih (i + 1) _ (by omega) (by omega) (by simp; omega)).mono (fun r hr => ?_)
    rw [hr, drop_atL _ i (by omega), bt_getD]
    simp [hexL]
theorem implHex (s : ByteArray) : Gets (fun k => impl_Hex.f k s) (· = hexT s) := by
  unfold impl_Hex.f hexT
  refine Gets.ite (fun h => Gets.ret (by rw [if_pos h])) (fun h => ?_)
  rw [if_neg h, wrapId (by omega) (by omega)]
  refine Gets.pos (by omega) (Gets.pos (by omega) ?_)
  exact (implHex_l0 s (by omega) s.size 0 [] (by omega) (by omega) (by simp)).mono (fun r hr => by rw [hr]; simp)

set_option maxRecDepth 20000 in
theorem valF : ∀ n : Fin 256, Lib.indexByte (⟨#[48, 49, 50, 51, 52, 53, 54, 55, 56, 57, 97, 98, 99, 100, 101, 102]⟩ : ByteArray).data.toList (((n.val : Nat) : Int).toNat.toUInt8) = valL ((n.val : Nat) : Int) := by decide
theorem implVal (n : Int) (h : 0 ≤ n ∧ n < 256) : strings_IndexByte.f (⟨#[48, 49, 50, 51, 52, 53, 54, 55, 56, 57, 97, 98, 99, 100, 101, 102]⟩ : ByteArray) n = some (valL n) := by
  have := valF ⟨n.toNat, by omega⟩
  unfold strings_IndexByte.f
  rw [show (((⟨n.toNat, by omega⟩ : Fin 256).val : Nat) : Int) = n by simp; omega] at this
  rw [this]
theorem orF : ∀ a b : Fin 16, Go.bits .or .i64 (((a.val : Nat) : Int) * 16) ((b.val : Nat) : Int) = ((a.val : Nat) : Int) * 16 + ((b.val : Nat) : Int) := by decide
theorem or16 (a b : Int) (ha : 0 ≤ a ∧ a < 16) (hb : 0 ≤ b ∧ b < 16) : Go.bits .or .i64 (a * 16) b = a * 16 + b := by
  have := orF ⟨a.toNat, by omega⟩ ⟨b.toNat, by omega⟩
  simpa [show ((a.toNat : Nat) : Int) = a by omega, show ((b.toNat : Nat) : Int) = b by omega] using this
theorem unhex_end (acc : List Int) : unhexT acc [] = (strOfNums acc, true) := by unfold unhexT; rfl
theorem implUnhex_l0 (s : ByteArray) (hs : s.size ≤ 40000) (he : s.size % 2 = 0) (d : Nat) : ∀ (i : Nat) (acc : List Int), s.size - i = 2 * d → i ≤ s.size → acc.length ≤ i → Gets (fun k => impl_Unhex.l0 k s acc (i : Int)) (· = unhexT acc ((bytesOf s).drop i)) := by
  have hz := size_eq s
  induction d with
  | zero =>
    intro i acc hd hi ha
    refine Gets.step (fun k => impl_Unhex.l0.eq_2 ..) (Gets.neg (by omega) (Gets.ret ?_))
    rw [List.drop_of_length_le (by omega), unhex_end]
  | succ d ih =>
    intro i acc hd hi ha
    refine Gets.step (fun k => impl_Unhex.l0.eq_2 ..) (Gets.pos (by omega) (Gets.pos (by omega) ?_))
    have hb := bt_bd0 s i
    have e1 : wrap64 ((i : Int) + 1) = ((i + 1 : Nat) : Int) := by rw [wrapId (by omega) (by omega)]; omega
    have hc := bt_bd0 s ((i + 1 : Nat) : Int)
    rw [e1, implVal _ hb, implVal _ hc]
    simp only [Option.bind_some]
    refine Gets.pos (by omega) (Gets.pos (by omega) ?_)
    have hd1 : (bytesOf s).drop i = bt s i :: bt s ((i + 1 : Nat) : Int) :: (bytesOf s).drop (i + 2) := by
      rw [drop_atL _ i (by omega), drop_atL _ (i + 1) (by omega), bt_getD, bt_getD]; simp
    rw [hd1]
    have v1 := valL_bd (bt s i)
    have v2 := valL_bd (bt s ((i + 1 : Nat) : Int))
    unfold unhexT
    refine Gets.ite (fun h => Gets.ret (by rw [if_pos h])) (fun h => ?_)
    rw [if_neg h]
    refine Gets.ite (fun h => Gets.ret (by rw [if_pos h])) (fun h' => ?_)
    rw [if_neg h']
    refine Gets.pos (by omega) ?_
    rw [wrapId (x := valL (bt s i) * 16) (by omega) (by omega), or16 _ _ (by omega) (by omega), wrapId (x := (i : Int) + 2) (by omega) (by omega), show (i : Int) + 2 = ((i + 2 : Nat) : Int) by omega]
    rw [show (valL (bt s i) * 16 + valL (bt s ((i + 1 : Nat) : Int))) % 256 = valL (bt s i) * 16 + valL (bt s ((i + 1 : Nat) : Int)) by omega]
    exact ih (i + 2) _ (by omega) (by omega) (by simp; omega)
def unhexR (s : ByteArray) : ByteArray × Bool := if s.size % 2 = 0 ∧ s.size ≤ 40000 then unhexT [] (bytesOf s) else ((⟨#[]⟩ : ByteArray), false)
theorem implUnhex (s : ByteArray) : Gets (fun k => impl_Unhex.f k s) (· = unhexR s) := by
  unfold impl_Unhex.f unhexR
  have hj : ∀ b : Bool, (b = true ↔ ¬ (s.size % 2 = 0 ∧ s.size ≤ 40000)) → Gets (fun k => impl_Unhex.j0 k s b) (· = if s.size % 2 = 0 ∧ s.size ≤ 40000 then unhexT [] (bytesOf s) else ((⟨#[]⟩ : ByteArray), false)) := by
    intro b hb
    refine Gets.step (fun k => impl_Unhex.j0.eq_2 ..) (Gets.ite (fun h1 => Gets.ret (by rw [if_neg (hb.1 h1)])) (fun h1 => ?_))
    have h2 : s.size % 2 = 0 ∧ s.size ≤ 40000 := Decidable.byContradiction (fun h => h1 (hb.2 h))
    rw [if_pos h2, wrapId (by omega) (by omega)]
    refine Gets.pos (by omega) (Gets.pos (by omega) ?_)
    exact (implUnhex_l0 s h2.2 h2.1 (s.size / 2) 0 [] (by omega) (by omega) (by simp)).mono (fun r hr => by rw [hr]; simp)
  refine Gets.ite (fun h1 => hj _ (by rw [decide_eq_true_iff]; omega)) (fun h1 => hj _ (by simp; omega))

theorem implVar_l0 (j : Nat) : ∀ (n : Nat) (acc : List Int), n < 128 ^ (j + 1) → acc.length + j < 1000 → n ≤ 9223372036854775807 → Gets (fun k => impl_varText.l0 k (n : Int) acc) (· = strOfNums (acc ++ vtx n)) := by
  induction j with
  | zero =>
    intro n acc hn hl hb
    refine Gets.step (fun k => impl_varText.l0.eq_2 ..) ?_
    refine Gets.neg (by omega) (Gets.pos (by omega) (Gets.ret ?_))
    rw [vtx_small (by omega), show (n : Int) % 256 = n by omega]
  | succ j ih =>
    intro n acc hn hl hb
    refine Gets.step (fun k => impl_varText.l0.eq_2 ..) ?_
    refine Gets.ite (fun h => Gets.pos (by omega) ?_) (fun h => Gets.pos (by omega) (Gets.ret ?_))
    · have hp : (128 : Nat) ^ (j + 1 + 1) = 128 ^ (j + 1) * 128 := Nat.pow_succ ..
      have h2 : n / 128 < 128 ^ (j + 1) := by rw [Nat.div_lt_iff_lt_mul (by omega)]; omega
      rw [tdiv_nn (by omega), tmod_nn (by omega), show ((n : Int) / 128) = ((n / 128 : Nat) : Int) by omega, wrapId (by omega) (by omega), wrapId (by omega) (by omega)]
      refine (ih (n / 128) (acc ++ [(128 + (n : Int) % 128) % 256]) h2 (by simp; omega) (by omega)).mono (fun r hr => ?_)
      rw [hr, vtx_big (n := n) (by omega), List.append_assoc, List.singleton_append, show (128 + (n : Int) % 128) % 256 = 128 + (n % 128 : Nat) by omega]
    · rw [vtx_small (by omega), show (n : Int) % 256 = n by omega]
theorem implVar (n : Nat) (hb : n ≤ 9223372036854775807) : Gets (fun k => impl_varText.f k (n : Int)) (· = strOfNums (vtx n)) := by
  unfold impl_varText.f
  exact implVar_l0 9 n [] (big128 hb) (by simp) hb

theorem implRead_l0 (s : ByteArray) (hs : s.size ≤ 140737488351232) (A : List Int) (a : Int) (ha : a = A.length) (f : Nat) : ∀ pre rest : List Int, bytesOf s = A ++ (pre ++ rest) → pre.length + f = 5 →
    Gets (fun k => impl_ReadVar.l0 k s a (val pre) (128 ^ pre.length) pre.length) (· = rdv f rest pre a) := by
  induction f with
  | zero =>
    intro pre rest hb hl
    refine Gets.step (fun k => impl_ReadVar.l0.eq_2 ..) (Gets.neg (by omega) ?_)
    refine Gets.step (fun k => impl_ReadVar.j2.eq_2 ..) (Gets.neg (by simp) (Gets.ret ?_))
    simp [rdv]
  | succ f ih =>
    intro pre rest hb hl
    have hsz : (s.size : Int) = A.length + (pre.length + rest.length) := by rw [size_eq s, hb]; simp
    refine Gets.step (fun k => impl_ReadVar.l0.eq_2 ..) (Gets.pos (by omega) ?_)
    rw [wrapId (x := a + pre.length) (by omega) (by omega)]
    refine Gets.step (fun k => impl_ReadVar.j2.eq_2 ..) ?_
    cases rest with
    | nil =>
      refine Gets.neg (by simp at hsz ⊢; omega) (Gets.ret ?_)
      simp [rdv]
    | cons b l =>
      simp only [List.length_cons] at hsz
      refine Gets.pos (by simp; omega) ?_
      have hbr : 0 ≤ b ∧ b < 256 := bytesOf_range (s := s) (by rw [hb]; simp)
      have hv := val_bd pre
      have hp := pw5 (i := pre.length) (by omega)
      rw [wrapId (x := a + pre.length) (by omega) (by omega), bt_mid ha hb, wrapId (x := b) (by omega) (by omega), tmod_nn hbr.1]
      have hm : 0 * 128 ^ pre.length ≤ b % 128 * 128 ^ pre.length := Int.mul_le_mul_of_nonneg_right (by omega) (by omega)
      have hm2 : b % 128 * 128 ^ pre.length ≤ 127 * 128 ^ pre.length := Int.mul_le_mul_of_nonneg_right (by omega) (by omega)
      have hs1 := val_snoc pre b
      have hpw : (128 : Int) ^ (pre ++ [b]).length = 128 ^ pre.length * 128 := by rw [List.length_append, List.length_singleton, Int.pow_succ]
      rw [wrapId (x := b % 128 * 128 ^ pre.length) (by omega) (by omega), wrapId (x := val pre + b % 128 * 128 ^ pre.length) (by omega) (by omega), ← hs1, wrapId (x := 128 ^ pre.length * 128) (by omega) (by omega), ← hpw, wrapId (x := (pre.length : Int) + 1) (by omega) (by omega), wrapId (x := a + pre.length + 1) (by omega) (by omega)]
      refine Gets.pos (by omega) (Gets.pos (by omega) ?_)
      have hih := ih (pre ++ [b]) l (by rw [hb]; simp) (by simp; omega)
      rw [show (((pre ++ [b]).length : Nat) : Int) = pre.length + 1 by simp] at hih
      refine Gets.ite (fun h => ?_) (fun h => ?_)
      · rw [rdv_more h]; exact hih
      · repeat' (first | refine Gets.ite (fun h => ?_) (fun h => ?_) | exact Gets.ret (rdv_no (by omega) (by omega)).symm | exact Gets.ret (rdv_yes (by omega) (by omega) (by omega)).symm)
theorem implRead (s : ByteArray) (a : Int) (hs : s.size ≤ 140737488351232) : Gets (fun k => impl_ReadVar.f k s a) (fun r => (0 ≤ a → a ≤ s.size → r = rdv 5 ((bytesOf s).drop a.toNat) [] a) ∧ (¬ (0 ≤ a ∧ a ≤ s.size) → r = (0, 0, false))) := by
  unfold impl_ReadVar.f
  by_cases h : 0 ≤ a ∧ a ≤ s.size
  · refine Gets.neg (by omega) (Gets.step (fun k => impl_ReadVar.j0.eq_2 ..) (Gets.neg (by simp; omega) ?_))
    refine (implRead_l0 s hs ((bytesOf s).take a.toNat) a ?_ 5 [] ((bytesOf s).drop a.toNat) (by simp) rfl).mono (fun r hr => ⟨fun _ _ => hr, fun hn => absurd h hn⟩)
    rw [List.length_take, bytesOf_length]; omega
  · refine Gets.ite (fun h1 => ?_) (fun h1 => ?_)
    · exact Gets.step (fun k => impl_ReadVar.j0.eq_2 ..) (Gets.pos rfl (Gets.ret ⟨fun _ _ => by omega, fun _ => rfl⟩))
    · exact Gets.step (fun k => impl_ReadVar.j0.eq_2 ..) (Gets.pos (by simp; omega) (Gets.ret ⟨fun _ _ => by omega, fun _ => rfl⟩))

/-- What ReadShort answers, by what ReadVar does. -/
def rsh (s : ByteArray) (v : Int × Int × Bool) : ByteArray × Int × Bool :=
  if v.2.2 = true ∧ v.1 ≤ 20000 ∧ v.1 ≤ (s.size : Int) - v.2.1 then (s.extract v.2.1.toNat (v.2.1 + v.1).toNat, v.2.1 + v.1, true) else ((⟨#[]⟩ : ByteArray), 0, false)
/-- What is known of what ReadVar answers. -/
def rvOk (s : ByteArray) (v : Int × Int × Bool) : Prop := v.2.2 = true → 0 ≤ v.1 ∧ v.1 ≤ 1000000000 ∧ 0 ≤ v.2.1 ∧ v.2.1 ≤ s.size
theorem rdv_ok (s : ByteArray) (f : Nat) : ∀ (l pre : List Int) (a : Int), 0 ≤ a → a + pre.length + l.length ≤ s.size → rvOk s (rdv f l pre a) := by
  induction f with
  | zero => intro l pre a h0 h1 h; simp [rdv] at h
  | succ f ih =>
    intro l pre a h0 h1
    cases l with
    | nil => intro h; simp [rdv] at h
    | cons b l =>
      simp only [List.length_cons] at h1
      rcases Int.lt_or_le b 128 with h | h
      · by_cases h2 : (b = 0 ∧ 0 < pre.length) ∨ val (pre ++ [b]) > 1000000000
        · rw [rdv_no h h2]; intro h; simp at h
        · rw [rdv_yes h (by omega) (by omega)]
          have := (val_bd (pre ++ [b])).1
          intro _
          refine ⟨this, by omega, ?_, ?_⟩ <;> simp only <;> omega
      · rw [rdv_more h]
        exact ih l (pre ++ [b]) a h0 (by simp; omega)
theorem implReadShort (s : ByteArray) (a : Int) (v : Int × Int × Bool) (hs : s.size ≤ 140737488351232) (hv : Ev (fun k => impl_ReadVar.f k s a) v) (ho : rvOk s v) : Gets (fun k => impl_ReadShort.f k s a) (· = rsh s v) := by
  unfold impl_ReadShort.f
  refine Gets.bindE hv ?_
  unfold rsh
  refine Gets.ite (fun h => ?_) (fun h => Gets.ret ?_)
  · have h2 := ho h
    rw [wrapId (by omega) (by omega), wrapId (by omega) (by omega)]
    refine Gets.ite (fun h3 => Gets.ret ?_) (fun h3 => ?_)
    · rw [if_neg (by omega)]
    · refine Gets.ite (fun h4 => Gets.ret ?_) (fun h4 => ?_)
      · rw [if_neg (by omega)]
      · refine Gets.pos (by omega) (Gets.pos (by omega) (Gets.pos (by omega) (Gets.ret ?_)))
        rw [if_pos ⟨h, by omega, by omega⟩]
  · rw [if_neg (fun h2 => h h2.1)]
theorem rv_value (s : ByteArray) (a : Int) (hs : s.size ≤ 140737488351232) : ∃ v, Ev (fun k => impl_ReadVar.f k s a) v ∧ rvOk s v ∧ (0 ≤ a → a ≤ s.size → v = rdv 5 ((bytesOf s).drop a.toNat) [] a) ∧ (¬ (0 ≤ a ∧ a ≤ s.size) → v = (0, 0, false)) := by
  obtain ⟨v, hv, h1, h2⟩ := implRead s a hs
  refine ⟨v, hv, ?_, h1, h2⟩
  by_cases h : 0 ≤ a ∧ a ≤ s.size
  · rw [h1 h.1 h.2]
    refine rdv_ok s 5 _ [] a h.1 ?_
    rw [List.length_drop, bytesOf_length]; simp; omega
  · rw [h2 h]
    intro h; simp at h

/-! ### rows of numbers -/
theorem rd_get {l : List Int} {i : Int} (h : i.toNat < l.length) : rd l i = l[i.toNat] := by
  unfold rd; rw [List.getD_eq_getElem?_getD, List.getElem?_eq_getElem h]; rfl
theorem fill_step {α : Type} (l : List α) (d : α) (i : Nat) (h : i < l.length) : (l.take i ++ List.replicate (l.length - i) d).set i l[i] = l.take (i + 1) ++ List.replicate (l.length - (i + 1)) d := by
  have e : List.replicate (l.length - i) d = d :: List.replicate (l.length - (i + 1)) d := by
    rw [show l.length - i = (l.length - (i + 1)) + 1 by omega]; rfl
  rw [e, List.set_append_right _ _ (by rw [List.length_take]; omega), List.length_take, show i - min i l.length = 0 by omega, List.set_cons_zero, List.take_succ_eq_append_getElem h, List.append_assoc]
  rfl
theorem drop_at {α : Type} (l : List α) (i : Nat) (h : i < l.length) : l.drop i = l[i] :: l.drop (i + 1) := List.drop_eq_getElem_cons h
def marks (k : Int) (n : Nat) : List Int := (List.range n).map (fun (i : Nat) => k + (i : Int))
theorem marks_length (k : Int) (n : Nat) : (marks k n).length = n := by simp [marks]
theorem marks_get (k : Int) (n i : Nat) (h : i < n) : (marks k n)[i]'(by rw [marks_length]; exact h) = k + i := by simp [marks]

/-! ### the reader of draws: it always answers -/
theorem and_i64 (x : Int) (m : Nat) (hm : m < 9223372036854775808) : 0 ≤ Go.bits .and .i64 x (m : Int) ∧ Go.bits .and .i64 x (m : Int) ≤ (m : Int) := by
  have h1 : (BitVec.ofInt IntKind.i64.bits x &&& BitVec.ofInt IntKind.i64.bits (m : Int)).toNat ≤ m := by
    rw [BitVec.toNat_and]
    refine Nat.le_trans Nat.and_le_right ?_
    rw [BitVec.ofInt_natCast, BitVec.toNat_ofNat]
    exact Nat.mod_le _ _
  unfold Go.bits
  simp only [IntKind.wrap_i64]
  omega
theorem and255 (x : Int) : 0 ≤ Go.bits .and .i64 x 255 ∧ Go.bits .and .i64 x 255 < 256 := by
  have h := and_i64 x 255 (by decide)
  rw [show ((255 : Nat) : Int) = 255 from rfl] at h
  omega
theorem wrap_bd (x : Int) : -9223372036854775808 ≤ wrap64 x ∧ wrap64 x ≤ 9223372036854775807 := by unfold wrap64; omega
theorem dByte (l : List Int) (p z : Int) (hl : l.length ≤ 1048576) (hp : 0 ≤ p ∧ p ≤ l.length) : ∃ v p' z', spec_l01Byte.f l p z = some (v, p', z') ∧ (0 ≤ v ∧ v < 256) ∧ 0 ≤ p' ∧ p' ≤ l.length := by
  unfold spec_l01Byte.f
  by_cases h : p < (l.length : Int)
  · rw [if_pos h, if_pos hp.1]
    refine ⟨_, _, _, rfl, and255 _, ?_⟩
    rw [wrapId (by omega) (by omega)]; omega
  · rw [if_neg h]
    exact ⟨_, _, _, rfl, and255 _, hp⟩
theorem dBelow (l : List Int) (p z n : Int) (hl : l.length ≤ 1048576) (hp : 0 ≤ p ∧ p ≤ l.length) (hn : 0 < n) : ∃ v p' z', spec_l01Below.f l p z n = some (v, p', z') ∧ (0 ≤ v ∧ v < n) ∧ 0 ≤ p' ∧ p' ≤ l.length := by
  unfold spec_l01Below.f
  rw [if_neg (by omega)]
  by_cases h : n ≤ 256
  · rw [if_pos h]
    obtain ⟨v, p1, z1, e1, hv, hp1⟩ := dByte l p z hl hp
    rw [e1]
    simp only [Option.bind_some]
    rw [if_neg (by omega)]
    refine ⟨_, _, _, rfl, ?_, hp1⟩
    rw [tmod_nn hv.1]
    exact ⟨Int.emod_nonneg _ (by omega), Int.emod_lt_of_pos _ hn⟩
  · rw [if_neg h]
    obtain ⟨v1, p1, z1, e1, hv1, hp1⟩ := dByte l p z hl hp
    rw [e1]
    simp only [Option.bind_some]
    obtain ⟨v2, p2, z2, e2, hv2, hp2⟩ := dByte l p1 z1 hl hp1
    rw [e2]
    simp only [Option.bind_some]
    obtain ⟨v3, p3, z3, e3, hv3, hp3⟩ := dByte l p2 z2 hl hp2
    rw [e3]
    simp only [Option.bind_some]
    obtain ⟨v4, p4, z4, e4, hv4, hp4⟩ := dByte l p3 z3 hl hp3
    rw [e4]
    simp only [Option.bind_some]
    rw [if_neg (by omega)]
    refine ⟨_, _, _, rfl, ?_, hp4⟩
    rw [wrapId (x := v1 * 16777216) (by omega) (by omega), wrapId (x := v2 * 65536) (by omega) (by omega), wrapId (x := v1 * 16777216 + v2 * 65536) (by omega) (by omega), wrapId (x := v3 * 256) (by omega) (by omega), wrapId (x := v1 * 16777216 + v2 * 65536 + v3 * 256) (by omega) (by omega), wrapId (by omega) (by omega), tmod_nn (by omega)]
    exact ⟨Int.emod_nonneg _ (by omega), Int.emod_lt_of_pos _ hn⟩
theorem dNew_l0 (l : List Int) (hl : l.length ≤ 1048576) (d : Nat) : ∀ (i : Nat) (h : Int), l.length - i = d → i ≤ l.length → Gets (fun k => spec_l01New.l0 k l h (i : Int)) (fun r => r.1 = l ∧ r.2.1 = 0) := by
  induction d with
  | zero =>
    intro i h hd hi
    exact Gets.step (fun k => spec_l01New.l0.eq_2 ..) (Gets.neg (by omega) (Gets.ret ⟨rfl, rfl⟩))
  | succ d ih =>
    intro i h hd hi
    refine Gets.step (fun k => spec_l01New.l0.eq_2 ..) (Gets.pos (by omega) (Gets.ite (fun _ => Gets.pos (by omega) ?_) (fun _ => Gets.ret ⟨rfl, rfl⟩)))
    rw [wrapId (x := (i : Int) + 1) (by omega) (by omega), show ((i : Int) + 1) = ((i + 1 : Nat) : Int) by omega]
    exact ih (i + 1) _ (by omega) (by omega)
theorem dNew (l : List Int) (hl : l.length ≤ 1048576) : Gets (fun k => spec_l01New.f k l) (fun r => r.1 = l ∧ r.2.1 = 0) := by
  unfold spec_l01New.f
  exact dNew_l0 l hl _ 0 _ rfl (by omega)

theorem dOnce (l : List Int) (p z n : Int) (hl : l.length ≤ 1048576) (hp : 0 ≤ p ∧ p ≤ l.length) (hn : 0 < n) : ∃ v p' z', spec_l01Once.f l p z n = some (v, p', z') ∧ 0 ≤ p' ∧ p' ≤ l.length := by
  unfold spec_l01Once.f
  obtain ⟨v, p', z', e, _, hp'⟩ := dBelow l p z n hl hp hn
  rw [e]
  exact ⟨_, _, _, rfl, hp'⟩

theorem dPickInt (l : List Int) (p z : Int) (m : List Int) (hl : l.length ≤ 1048576) (hp : 0 ≤ p ∧ p ≤ l.length) (hm : 0 < m.length) : ∃ v p' z', spec_l01PickInt.f l p z m = some (v, p', z') ∧ v ∈ m ∧ 0 ≤ p' ∧ p' ≤ l.length := by
  unfold spec_l01PickInt.f
  obtain ⟨v, p', z', e, hv, hp'⟩ := dBelow l p z (m.length : Int) hl hp (by omega)
  rw [e]
  simp only [Option.bind_some]
  rw [if_pos hv.1, if_pos hv.2]
  refine ⟨_, _, _, rfl, ?_, hp'⟩
  rw [rd_get (by omega)]
  exact List.getElem_mem _

theorem dText_l0 (l : List Int) (hl : l.length ≤ 1048576) (n : Int) (hn : n ≤ 5000) (d : Nat) : ∀ (i : Nat) (acc : List Int) (p z : Int), (n - i).toNat = d → acc.length = i → (0 ≤ p ∧ p ≤ l.length) → Gets (fun k => spec_l01Text.l0 k n acc (i : Int) l p z) (fun r => r.1.size = max i n.toNat ∧ 0 ≤ r.2.1 ∧ r.2.1 ≤ l.length) := by
  induction d with
  | zero =>
    intro i acc p z hd ha hp
    refine Gets.step (fun k => spec_l01Text.l0.eq_2 ..) (Gets.neg (by omega) (Gets.ret ⟨?_, hp⟩))
    show (strOfNums acc).size = _
    rw [strOfNums_size]; omega
  | succ d ih =>
    intro i acc p z hd ha hp
    refine Gets.step (fun k => spec_l01Text.l0.eq_2 ..) (Gets.pos (by omega) ?_)
    obtain ⟨v, p', z', e, hv, hp'⟩ := dByte l p z hl hp
    simp only [e, Option.bind_some]
    refine Gets.pos (by omega) ?_
    rw [wrapId (x := (i : Int) + 1) (by omega) (by omega), show ((i : Int) + 1) = ((i + 1 : Nat) : Int) by omega]
    exact (ih (i + 1) _ p' z' (by omega) (by simp; omega) hp').mono (fun r hr => ⟨by omega, hr.2⟩)
theorem dText (l : List Int) (p z n : Int) (hl : l.length ≤ 1048576) (hp : 0 ≤ p ∧ p ≤ l.length) (hn : 0 ≤ n ∧ n ≤ 5000) : Gets (fun k => spec_l01Text.f k l p z n) (fun r => r.1.size = n.toNat ∧ 0 ≤ r.2.1 ∧ r.2.1 ≤ l.length) := by
  unfold spec_l01Text.f
  refine Gets.neg (by omega) (Gets.step (fun k => spec_l01Text.j0.eq_2 ..) ?_)
  exact (dText_l0 l hl n (by omega) _ 0 [] p z rfl rfl hp).mono (fun r hr => ⟨by omega, hr.2⟩)

theorem dLong_l0 (n : Nat) (c : Int) (d : Nat) : ∀ (i : Nat) (acc : List Int), n - i = d → i ≤ n → acc.length = n → n ≤ 1000000 → Gets (fun k => spec_l01Long.l0 k (n : Int) c acc (i : Int)) (fun r => r.size = n) := by
  induction d with
  | zero =>
    intro i acc hd hi ha hn
    exact Gets.step (fun k => spec_l01Long.l0.eq_2 ..) (Gets.neg (by omega) (Gets.ret (by rw [strOfNums_size]; exact ha)))
  | succ d ih =>
    intro i acc hd hi ha hn
    refine Gets.step (fun k => spec_l01Long.l0.eq_2 ..) (Gets.pos (by omega) (Gets.pos (by omega) (Gets.pos (by omega) ?_)))
    rw [wrapId (x := (i : Int) + 1) (by omega) (by omega), show ((i : Int) + 1) = ((i + 1 : Nat) : Int) by omega]
    exact ih (i + 1) _ (by omega) (by omega) (by simpa using ha) hn
theorem dLong (n : Nat) (c : Int) (hn : n ≤ 1000000) : Gets (fun k => spec_l01Long.f k (n : Int) c) (fun r => r.size = n) := by
  unfold spec_l01Long.f
  refine Gets.pos (by omega) (Gets.pos (by omega) ?_)
  exact dLong_l0 n c _ 0 _ rfl (by omega) (by simp) hn

theorem dNumber (l : List Int) (p z : Int) (hl : l.length ≤ 1048576) (hp : 0 ≤ p ∧ p ≤ l.length) : ∃ v p' z', spec_l01Number.f l p z = some (v, p', z') := by
  unfold spec_l01Number.f
  obtain ⟨v, p1, z1, e1, hv, hp1⟩ := dBelow l p z 4 hl hp (by omega)
  rw [e1]
  simp only [Option.bind_some]
  split
  · obtain ⟨v2, p2, z2, e2, _, _⟩ := dPickInt l p1 z1 [-1, 0, 127, 128, 16383, 16384, 1000000000, 1000000001, 9223372036854775807, -9223372036854775808] hl hp1 (by simp)
    rw [e2]
    exact ⟨_, _, _, rfl⟩
  · split
    · obtain ⟨v2, p2, z2, e2, _, _⟩ := dBelow l p1 z1 1000000000 hl hp1 (by omega)
      rw [e2]
      exact ⟨_, _, _, rfl⟩
    · obtain ⟨v2, p2, z2, e2, _, _⟩ := dBelow l p1 z1 400 hl hp1 (by omega)
      rw [e2]
      exact ⟨_, _, _, rfl⟩
theorem dVarText (l : List Int) (hl : l.length ≤ 1048576) : Gets (fun k => spec_DrawVarText.f k l) (fun _ => True) := by
  unfold spec_DrawVarText.f
  refine Gets.bind (dNew l hl) (fun c hc => ?_)
  obtain ⟨c1, c2, c3⟩ := c
  obtain ⟨h1, h2⟩ := hc
  simp only at h1 h2
  subst h1 h2
  obtain ⟨v, p, z, e⟩ := dNumber c1 0 c3 hl (by omega)
  simp only [e, Option.bind_some]
  exact Gets.ret trivial
theorem dHex (l : List Int) (hl : l.length ≤ 1048576) : Gets (fun k => spec_DrawHex.f k l) (fun _ => True) := by
  unfold spec_DrawHex.f
  refine Gets.bind (dNew l hl) (fun c hc => ?_)
  obtain ⟨c1, c2, c3⟩ := c
  obtain ⟨h1, h2⟩ := hc
  simp only at h1 h2
  subst h1 h2
  obtain ⟨b, p, z, e, hp⟩ := dOnce c1 0 c3 60 hl (by omega) (by omega)
  simp only [e, Option.bind_some]
  refine Gets.ite (fun _ => ?_) (fun _ => ?_)
  · obtain ⟨v, p2, z2, e2, hv, _⟩ := dBelow c1 p z 2 hl hp (by omega)
    simp only [e2, Option.bind_some]
    rw [wrapId (by omega) (by omega), show 20000 + v = ((20000 + v).toNat : Int) by omega]
    exact Gets.bind (dLong _ 200 (by omega)) (fun t _ => Gets.ret trivial)
  · obtain ⟨v, p2, z2, e2, hv, hp2⟩ := dBelow c1 p z 30 hl hp (by omega)
    simp only [e2, Option.bind_some]
    exact Gets.bind (dText c1 p2 z2 v hl hp2 (by omega)) (fun t _ => Gets.ret trivial)
theorem num_j2 (n : Nat) (V : ByteArray) (hV : V.size ≤ 100) (s : ByteArray) (hs : s.size ≤ 300) : Gets (fun k => laws_FnNumbers.j2 k (n : Int) V true (n : Int) ((V.size : Int) + 1) true (n : Int) true s) (· = true) := by
  have hl := vtx_length 9 s.size (big128 (by omega))
  have hr := vtx_range 9 s.size (big128 (by omega))
  refine Gets.step (fun k => laws_FnNumbers.j2.eq_2 ..) ?_
  have eS : Gets (fun k => impl_ShortText.f k s) (· = (strOfNums (vtx s.size) ++ s, true)) := by
    unfold impl_ShortText.f
    refine Gets.neg (by omega) (Gets.bindE (implVar s.size (by omega)).ev (Gets.pos (by rw [strOfNums_size]; omega) (Gets.ret rfl)))
  refine Gets.bindE eS.ev ?_
  have hz : (strOfNums (vtx s.size) ++ s).size = (vtx s.size).length + s.size := by rw [size_app, strOfNums_size]
  obtain ⟨v, hv, ho, h1, _⟩ := rv_value (strOfNums (vtx s.size) ++ s) 0 (by omega)
  have hv1 := h1 (by omega) (by omega)
  rw [Int.toNat_zero, List.drop_zero, bytesOf_app, bytesOf_str hr, rdv_back s.size (by omega)] at hv1
  refine Gets.bindE (implReadShort _ 0 v (by omega) hv ho).ev ?_
  have e2 : rsh (strOfNums (vtx s.size) ++ s) v = (s, (((strOfNums (vtx s.size) ++ s).size : Nat) : Int), true) := by
    unfold rsh
    rw [hv1]
    dsimp only
    rw [if_pos ⟨rfl, by omega, by omega⟩]
    have e3 : (strOfNums (vtx s.size) ++ s).extract (0 + ((vtx s.size).length : Int)).toNat (0 + ((vtx s.size).length : Int) + s.size).toNat = s := by
      refine bytesOf_inj ?_
      rw [bytesOf_extract, bytesOf_app, bytesOf_str hr, show (0 + ((vtx s.size).length : Int)).toNat = (vtx s.size).length by omega, List.drop_left]
      exact List.take_of_length_le (by rw [bytesOf_length]; omega)
    rw [e3, hz]
    simp
  rw [e2]
  have eH : hexT s = (strOfNums (hexL (bytesOf s)), true) := by unfold hexT; rw [if_neg (by omega)]
  refine Gets.bindE (implHex s).ev ?_
  rw [eH]
  refine Gets.bindE (implUnhex _).ev ?_
  have eU : unhexR (strOfNums (hexL (bytesOf s))) = (s, true) := by
    unfold unhexR
    have hq := hexL_len (bytesOf s)
    rw [bytesOf_length] at hq
    rw [if_pos (by rw [strOfNums_size]; omega), bytesOf_str (hexL_range _ (fun _ => bytesOf_range)), unhex_hex _ [] (fun _ => bytesOf_range), List.nil_append, str_bytesOf]
  rw [eU]
  refine Gets.pos rfl (Gets.pos rfl (Gets.pos rfl (Gets.pos rfl (Gets.pos rfl (Gets.pos rfl (Gets.pos rfl (Gets.pos rfl (Gets.pos rfl ?_))))))))
  rw [wrapId (by omega) (by omega)]
  exact Gets.pos rfl (Gets.pos rfl (Gets.pos rfl (Gets.ret (by simp))))
theorem num_j1 (l : List Int) (hl : l.length ≤ 1048576) (n : Nat) (hn : n ≤ 1000000000) : Gets (fun k => laws_FnNumbers.j1 k l (n : Int)) (· = true) := by
  have hlen := vtx_length 9 n (big128 (by omega))
  have hr := vtx_range 9 n (big128 (by omega))
  refine Gets.step (fun k => laws_FnNumbers.j1.eq_2 ..) ?_
  have eV : Gets (fun k => impl_VarText.f k (n : Int)) (· = (strOfNums (vtx n), true)) := by
    unfold impl_VarText.f
    exact Gets.neg (by omega) (Gets.neg (by omega) (Gets.bindE (implVar n (by omega)).ev (Gets.ret rfl)))
  refine Gets.bindE eV.ev ?_
  have hVs : (strOfNums (vtx n)).size = (vtx n).length := strOfNums_size _
  refine Gets.pos (by dsimp only; omega) (Gets.pos (by dsimp only; omega) ?_)
  have h120 : (⟨#[120]⟩ : ByteArray).size = 1 := rfl
  have h121 : (⟨#[121]⟩ : ByteArray).size = 1 := rfl
  have hz : (((⟨#[120]⟩ : ByteArray) ++ strOfNums (vtx n)) ++ (⟨#[121]⟩ : ByteArray)).size = 1 + (vtx n).length + 1 := by rw [size_app, size_app, hVs, h120, h121]
  obtain ⟨v, hv, _, h1, _⟩ := rv_value (((⟨#[120]⟩ : ByteArray) ++ strOfNums (vtx n)) ++ (⟨#[121]⟩ : ByteArray)) 1 (by omega)
  have hv1 := h1 (by omega) (by omega)
  have eb : (bytesOf (((⟨#[120]⟩ : ByteArray) ++ strOfNums (vtx n)) ++ (⟨#[121]⟩ : ByteArray))).drop (1 : Int).toNat = vtx n ++ [121] := by
    rw [bytesOf_app, bytesOf_app, bytesOf_str hr]; rfl
  rw [eb, rdv_back n hn] at hv1
  refine Gets.bindE hv ?_
  rw [hv1, implDecimal _ (by omega)]
  simp only [Option.bind_some]
  refine Gets.bindE (implRd _).ev ?_
  rw [rdT_back n hn]
  refine Gets.bind (dHex l hl) (fun t _ => ?_)
  have e1 : (1 : Int) + (vtx n).length = ((strOfNums (vtx n)).size : Int) + 1 := by omega
  rw [e1]
  refine Gets.ite (fun _ => num_j2 n _ (by omega) _ (by decide)) (fun h => num_j2 n _ (by omega) t (by omega))
theorem FnNumbers : Stat.FnNumbers := by
  intro l _
  refine Gets.rounds ?_
  unfold laws_FnNumbers.f laws_big.f
  simp only [Option.bind_some]
  refine Gets.ite (fun _ => Gets.ret rfl) (fun h => ?_)
  have hl : l.length ≤ 1048576 := by
    rcases Nat.lt_or_ge 1048576 l.length with h1 | h1
    · exact absurd (decide_eq_true (by omega)) h
    · exact h1
  have hj : ∀ (v : Int) (b : Bool), (b = true ∨ (0 ≤ v ∧ v ≤ 1000000000)) → Gets (fun k => laws_FnNumbers.j0 k l v b) (· = true) := by
    intro v b hb
    refine Gets.step (fun k => laws_FnNumbers.j0.eq_2 ..) (Gets.ite (fun _ => num_j1 l hl 12345 (by omega)) (fun h1 => ?_))
    have := hb.resolve_left h1
    rw [show v = (v.toNat : Int) by omega]
    exact num_j1 l hl v.toNat (by omega)
  refine Gets.bind (dVarText l hl) (fun v _ => Gets.ite (fun h1 => hj v true (.inl rfl)) (fun h1 => hj v _ ?_))
  by_cases h2 : v > 1000000000
  · exact .inl (decide_eq_true h2)
  · exact .inr ⟨by omega, by omega⟩

end Go.Proofs.YtlnmiafahjddhadDoor.Pure
