/- The program's ItemText and the reference's answer alike at every item. -/
import Derived.Test.YtlnmiafahjddhaaStatFnExactItemText
import Derived.Lib.Strings
set_option linter.unusedVariables false
set_option linter.unusedSimpArgs false
namespace Go.Proofs.Ytlnmiafahjddhaa.Pure
open Go.RowKit Go.Proofs.Ytlnmiafahjddhaa.PFnExactItemText Go.Proofs.YtlnmiafahjddhaaW.PrintWords Go.Proofs.YtlnmiafahjddhaaW.PrintLast

/-! ### plain words: from some number of rounds on -/
def Gets {α : Type} (f : Nat → Option α) (Q : α → Prop) : Prop := ∃ r, Ev f r ∧ Q r
theorem Gets.ret {α : Type} {Q : α → Prop} {r : α} (h : Q r) : Gets (fun _ => some r) Q := ⟨r, Ev.now r, h⟩
theorem Gets.none {α : Type} {Q : α → Prop} (h : False) : Gets (fun _ => (Option.none : Option α)) Q := h.elim
theorem Gets.step {α : Type} {g f : Nat → Option α} {Q : α → Prop} (h : ∀ k, g (k + 1) = f k) (k : Gets f Q) : Gets g Q := by
  obtain ⟨r, hr, hq⟩ := k
  exact ⟨r, Ev.step h hr, hq⟩
theorem Ev.ite {α : Type} {c : Prop} [Decidable c] {f g : Nat → Option α} {r : α} (h : c → Ev f r) (k : ¬ c → Ev g r) : Ev (fun n => if c then f n else g n) r := by
  by_cases hc : c
  · simp only [hc, if_true]; exact h hc
  · simp only [hc, if_false]; exact k hc
theorem Gets.ite {α : Type} {c : Prop} [Decidable c] {f g : Nat → Option α} {Q : α → Prop} (h : c → Gets f Q) (k : ¬ c → Gets g Q) : Gets (fun n => if c then f n else g n) Q := by
  by_cases hc : c
  · simp only [hc, if_true]; exact h hc
  · simp only [hc, if_false]; exact k hc
theorem Gets.pos {α : Type} {c : Prop} [Decidable c] {f g : Nat → Option α} {Q : α → Prop} (hc : c) (h : Gets f Q) : Gets (fun n => if c then f n else g n) Q := by
  simp only [hc, if_true]; exact h
theorem Gets.neg {α : Type} {c : Prop} [Decidable c] {f g : Nat → Option α} {Q : α → Prop} (hc : ¬ c) (h : Gets g Q) : Gets (fun n => if c then f n else g n) Q := by
  simp only [hc, if_false]; exact h
theorem Gets.bind {α β : Type} {g : Nat → Option α} {f : Nat → α → Option β} {P : α → Prop} {Q : β → Prop} (h : Gets g P) (k : ∀ a, P a → Gets (fun n => f n a) Q) : Gets (fun n => (g n).bind (f n)) Q := by
  obtain ⟨a, ha, hp⟩ := h
  obtain ⟨r, hr, hq⟩ := k a hp
  exact ⟨r, Ev.bind ha hr, hq⟩
theorem Gets.bindE {α β : Type} {g : Nat → Option α} {f : Nat → α → Option β} {a : α} {Q : β → Prop} (h : Ev g a) (k : Gets (fun n => f n a) Q) : Gets (fun n => (g n).bind (f n)) Q := by
  obtain ⟨r, hr, hq⟩ := k
  exact ⟨r, Ev.bind h hr, hq⟩
theorem Gets.mono {α : Type} {f : Nat → Option α} {P Q : α → Prop} (h : Gets f P) (k : ∀ a, P a → Q a) : Gets f Q := by
  obtain ⟨r, hr, hp⟩ := h
  exact ⟨r, hr, k r hp⟩
theorem Gets.rounds {α : Type} {f : Nat → Option α} {r : α} (h : Gets f (· = r)) : ∃ k, f k = some r := by
  obtain ⟨a, ha, rfl⟩ := h
  exact ha.rounds
theorem Gets.ev {α : Type} {f : Nat → Option α} {r : α} (h : Gets f (· = r)) : Ev f r := by
  obtain ⟨a, ha, rfl⟩ := h
  exact ha
theorem Ev.gets {α : Type} {f : Nat → Option α} {r : α} {Q : α → Prop} (h : Ev f r) (hq : Q r) : Gets f Q := ⟨r, h, hq⟩
theorem Gets.same {α : Type} {o : Option α} {Q : α → Prop} {r : α} (h : o = some r) (hq : Q r) : Gets (fun _ => o) Q := by
  subst h; exact Gets.ret hq
theorem wrapId {x : Int} (h0 : -9223372036854775808 ≤ x) (h1 : x ≤ 9223372036854775807) : wrap64 x = x := by
  unfold wrap64; omega
theorem i64_bd {n : Int} (h : (Lit.int .i64 n).wf = true) : -9223372036854775808 ≤ n ∧ n ≤ 9223372036854775807 := by
  have hm : IntKind.i64.min = -9223372036854775808 := rfl
  simp [Lit.wf, hm] at h
  exact h
theorem boolEq {a b : Bool} {P Q : Prop} (ha : a = true ↔ P) (hb : b = true ↔ Q) (h : P ↔ Q) : a = b := by
  rw [Bool.eq_iff_iff, ha, hb, h]
theorem tmod_nn {a b : Int} (h : 0 ≤ a) : Int.tmod a b = a % b := Int.tmod_eq_emod_of_nonneg h
theorem tdiv_nn {a b : Int} (h : 0 ≤ a) : Int.tdiv a b = a / b := Int.tdiv_eq_ediv_of_nonneg h

theorem inR (x a b : Int) : impl_inRange.f x a b = some (decide (a ≤ x ∧ x ≤ b)) := by
  unfold impl_inRange.f
  by_cases h : x ≥ a
  · rw [if_pos h]; simp [show a ≤ x from h]
  · rw [if_neg h]; simp [show ¬ a ≤ x from h]

theorem inS (x a b : Int) : spec_l01In.f x a b = some (decide (a ≤ x ∧ x ≤ b)) := by
  unfold spec_l01In.f
  by_cases h : x ≥ a
  · rw [if_pos h]; simp [show a ≤ x from h]
  · rw [if_neg h]; simp [show ¬ a ≤ x from h]

def itemB (a b c : Int) (s : ByteArray) : Bool := decide ((1 ≤ a ∧ a ≤ 60) ∧ (1 ≤ b ∧ b ≤ 5) ∧ (1 ≤ c ∧ c ≤ 2) ∧ (s.size : Int) ≤ 60)
theorem implItemOk (a b c : Int) (s : ByteArray) : impl_ItemOk.f a b c s = some (itemB a b c s) := by
  unfold impl_ItemOk.f impl_isDaemon.f impl_isLevel.f itemB
  simp only [inR, Option.bind_some, decide_eq_true_eq]
  by_cases h1 : 1 ≤ a ∧ a ≤ 60
  · rw [if_pos h1]
    by_cases h2 : 1 ≤ b ∧ b ≤ 5
    · rw [if_pos h2]
      by_cases h3 : c = 1
      · rw [if_pos h3]; simp only [Option.bind_some, if_true]; congr 1; rw [decide_eq_decide]; omega
      · rw [if_neg h3]; simp only [Option.bind_some, beq_iff_eq]
        by_cases h4 : c = 2
        · rw [if_pos h4]; congr 1; rw [decide_eq_decide]; omega
        · rw [if_neg h4]; congr 1; symm; rw [decide_eq_false_iff_not]; omega
    · rw [if_neg h2]; congr 1; symm; rw [decide_eq_false_iff_not]; exact fun h => h2 h.2.1
  · rw [if_neg h1]; congr 1; symm; rw [decide_eq_false_iff_not]; exact fun h => h1 h.1
theorem specItemOk (a b c : Int) (s : ByteArray) : spec_ItemOk.f a b c s = some (itemB a b c s) := by
  unfold spec_ItemOk.f itemB
  simp only [inS, Option.bind_some, decide_eq_true_eq]
  by_cases h1 : 1 ≤ a ∧ a ≤ 60
  · rw [if_pos h1]
    by_cases h2 : 1 ≤ b ∧ b ≤ 5
    · rw [if_pos h2]
      by_cases h3 : 1 ≤ c ∧ c ≤ 2
      · rw [if_pos h3]; congr 1; rw [decide_eq_decide]; omega
      · rw [if_neg h3]; congr 1; symm; rw [decide_eq_false_iff_not]; exact fun h => h3 h.2.2.1
    · rw [if_neg h2]; congr 1; symm; rw [decide_eq_false_iff_not]; exact fun h => h2 h.2.1
  · rw [if_neg h1]; congr 1; symm; rw [decide_eq_false_iff_not]; exact fun h => h1 h.1

/-! ### numbers in bytes -/
def vtx (n : Nat) : List Int := if h : 127 < n then (128 + (n % 128 : Nat) : Int) :: vtx (n / 128) else [(n : Int)]
termination_by n
decreasing_by omega
theorem vtx_small {n : Nat} (h : n ≤ 127) : vtx n = [(n : Int)] := by rw [vtx, dif_neg (by omega)]
theorem vtx_big {n : Nat} (h : 127 < n) : vtx n = (128 + (n % 128 : Nat) : Int) :: vtx (n / 128) := by rw [vtx, dif_pos h]
theorem vtx_length (j : Nat) : ∀ n : Nat, n < 128 ^ (j + 1) → 1 ≤ (vtx n).length ∧ (vtx n).length ≤ j + 1 := by
  induction j with
  | zero => intro n h; rw [vtx_small (by omega)]; simp
  | succ j ih =>
    intro n h
    rcases Nat.lt_or_ge 127 n with h1 | h1
    · rw [vtx_big h1]
      have hp : (128 : Nat) ^ (j + 1 + 1) = 128 ^ (j + 1) * 128 := Nat.pow_succ ..
      have h2 : n / 128 < 128 ^ (j + 1) := by rw [Nat.div_lt_iff_lt_mul (by omega)]; omega
      have := ih _ h2
      simp only [List.length_cons]
      omega
    · rw [vtx_small h1]; simp
theorem big128 {n : Nat} (h : n ≤ 9223372036854775807) : n < 128 ^ (9 + 1) := by
  have : (128 : Nat) ^ (9 + 1) = 1180591620717411303424 := by decide
  omega

theorem implVar_l0 (j : Nat) : ∀ (n : Nat) (acc : List Int), n < 128 ^ (j + 1) → acc.length + j < 1000 → n ≤ 9223372036854775807 → Gets (fun k => impl_varText.l0 k (n : Int) acc) (· = strOfNums (acc ++ vtx n)) := by
  induction j with
  | zero =>
    intro n acc hn hl hb
    refine Gets.step (fun k => impl_varText.l0.eq_2 ..) ?_
    refine Gets.neg (by omega) (Gets.pos (by omega) (Gets.ret ?_))
    rw [vtx_small (by omega), show (n : Int) % 256 = n by omega]
  | succ j ih =>
    intro n acc hn hl hb
    refine Gets.step (fun k => impl_varText.l0.eq_2 ..) ?_
    refine Gets.ite (fun h => Gets.pos (by omega) ?_) (fun h => Gets.pos (by omega) (Gets.ret ?_))
    · have hp : (128 : Nat) ^ (j + 1 + 1) = 128 ^ (j + 1) * 128 := Nat.pow_succ ..
      have h2 : n / 128 < 128 ^ (j + 1) := by rw [Nat.div_lt_iff_lt_mul (by omega)]; omega
      rw [tdiv_nn (by omega), tmod_nn (by omega), show ((n : Int) / 128) = ((n / 128 : Nat) : Int) by omega, wrapId (by omega) (by omega), wrapId (by omega) (by omega)]
      refine (ih (n / 128) (acc ++ [(128 + (n : Int) % 128) % 256]) h2 (by simp; omega) (by omega)).mono (fun r hr => ?_)
      rw [hr, vtx_big (n := n) (by omega), List.append_assoc, List.singleton_append, show (128 + (n : Int) % 128) % 256 = 128 + (n % 128 : Nat) by omega]
    · rw [vtx_small (by omega), show (n : Int) % 256 = n by omega]
theorem implVar (n : Nat) (hb : n ≤ 9223372036854775807) : Gets (fun k => impl_varText.f k (n : Int)) (· = strOfNums (vtx n)) := by
  unfold impl_varText.f
  exact implVar_l0 9 n [] (big128 hb) (by simp) hb

theorem specVar_l0 (j : Nat) : ∀ (n : Nat) (acc : List Int), n < 128 ^ (j + 1) → acc.length + j < 1000 → n ≤ 9223372036854775807 → Gets (fun k => spec_l01Var.l0 k (n : Int) acc) (· = strOfNums (acc ++ vtx n)) := by
  induction j with
  | zero =>
    intro n acc hn hl hb
    refine Gets.step (fun k => spec_l01Var.l0.eq_2 ..) ?_
    refine Gets.neg (by omega) (Gets.pos (by omega) (Gets.ret ?_))
    rw [vtx_small (by omega), show (n : Int) % 256 = n by omega]
  | succ j ih =>
    intro n acc hn hl hb
    refine Gets.step (fun k => spec_l01Var.l0.eq_2 ..) ?_
    refine Gets.ite (fun h => Gets.pos (by omega) ?_) (fun h => Gets.pos (by omega) (Gets.ret ?_))
    · have hp : (128 : Nat) ^ (j + 1 + 1) = 128 ^ (j + 1) * 128 := Nat.pow_succ ..
      have h2 : n / 128 < 128 ^ (j + 1) := by rw [Nat.div_lt_iff_lt_mul (by omega)]; omega
      rw [tdiv_nn (by omega), tmod_nn (by omega), show ((n : Int) / 128) = ((n / 128 : Nat) : Int) by omega, wrapId (by omega) (by omega), wrapId (by omega) (by omega)]
      refine (ih (n / 128) (acc ++ [((n : Int) % 128 + 128) % 256]) h2 (by simp; omega) (by omega)).mono (fun r hr => ?_)
      rw [hr, vtx_big (n := n) (by omega), List.append_assoc, List.singleton_append, show ((n : Int) % 128 + 128) % 256 = 128 + (n % 128 : Nat) by omega]
    · rw [vtx_small (by omega), show (n : Int) % 256 = n by omega]
theorem specVar (n : Nat) (hb : n ≤ 9223372036854775807) : Gets (fun k => spec_l01Var.f k (n : Int)) (· = strOfNums (vtx n)) := by
  unfold spec_l01Var.f
  exact specVar_l0 9 n [] (big128 hb) (by simp) hb

/-! ### rows of numbers -/
theorem rd_get {l : List Int} {i : Int} (h : i.toNat < l.length) : rd l i = l[i.toNat] := by
  unfold rd; rw [List.getD_eq_getElem?_getD, List.getElem?_eq_getElem h]; rfl
theorem fill_step {α : Type} (l : List α) (d : α) (i : Nat) (h : i < l.length) : (l.take i ++ List.replicate (l.length - i) d).set i l[i] = l.take (i + 1) ++ List.replicate (l.length - (i + 1)) d := by
  have e : List.replicate (l.length - i) d = d :: List.replicate (l.length - (i + 1)) d := by
    rw [show l.length - i = (l.length - (i + 1)) + 1 by omega]; rfl
  rw [e, List.set_append_right _ _ (by rw [List.length_take]; omega), List.length_take, show i - min i l.length = 0 by omega, List.set_cons_zero, List.take_succ_eq_append_getElem h, List.append_assoc]
  rfl
theorem drop_at {α : Type} (l : List α) (i : Nat) (h : i < l.length) : l.drop i = l[i] :: l.drop (i + 1) := List.drop_eq_getElem_cons h
def marks (k : Int) (n : Nat) : List Int := (List.range n).map (fun (i : Nat) => k + (i : Int))
theorem marks_length (k : Int) (n : Nat) : (marks k n).length = n := by simp [marks]
theorem marks_get (k : Int) (n i : Nat) (h : i < n) : (marks k n)[i]'(by rw [marks_length]; exact h) = k + i := by simp [marks]

theorem octets_l0 (l : List Int) (hl : l.length ≤ 2000000) (d : Nat) : ∀ (i : Nat) (acc : List Int), l.length - i = d → i ≤ l.length → acc.length + d ≤ 2000000 → Gets (fun k => impl_octets.l0 k acc l (l.length : Int) (i : Int)) (· = strOfNums (acc ++ (l.drop i).map (· % 256))) := by
  induction d with
  | zero =>
    intro i acc hd hi ha
    refine Gets.step (fun k => impl_octets.l0.eq_2 ..) (Gets.neg (by omega) (Gets.ret ?_))
    rw [List.drop_of_length_le (by omega)]
    simp
  | succ d ih =>
    intro i acc hd hi ha
    refine Gets.step (fun k => impl_octets.l0.eq_2 ..) (Gets.pos (by omega) (Gets.pos (by omega) (Gets.pos (by omega) (Gets.pos (by omega) ?_))))
    rw [rd_get (by omega), wrapId (by omega) (by omega), drop_at l i (by omega)]
    simp only [Int.toNat_natCast]
    rw [show ((i : Int) + 1) = ((i + 1 : Nat) : Int) by omega]
    refine (ih (i + 1) (acc ++ [l[i] % 256]) (by omega) (by omega) (by simp; omega)).mono (fun r hr => ?_)
    rw [hr]; simp only [List.map_cons, List.append_assoc, List.singleton_append]
theorem octets (l : List Int) (hl : l.length ≤ 2000000) : Gets (fun k => impl_octets.f k l) (· = strOfNums (l.map (· % 256))) := by
  unfold impl_octets.f
  have h := octets_l0 l hl l.length 0 [] (by omega) (by omega) (by simp; omega)
  simpa using h

/-! ### texts as lists of numbers -/
theorem bytesOf_inj {a b : ByteArray} (h : bytesOf a = bytesOf b) : a = b := by
  have hl : a.data.toList = b.data.toList := by
    unfold bytesOf at h
    exact List.map_inj_right (fun x y hxy => UInt8.toNat_inj.1 (by exact_mod_cast hxy)) |>.1 h
  have hd : a.data = b.data := Array.toList_inj.1 hl
  cases a; cases b; cases hd; rfl
theorem toList_iff (a b : ByteArray) : a.toList = b.toList ↔ a = b := by
  rw [Lib.toList_data, Lib.toList_data]
  exact ⟨fun h => bytesOf_inj (by unfold bytesOf; rw [h]), fun h => by rw [h]⟩
theorem bytesOf_range {s : ByteArray} {x : Int} (h : x ∈ bytesOf s) : 0 ≤ x ∧ x < 256 := by
  unfold bytesOf at h
  obtain ⟨b, _, rfl⟩ := List.mem_map.1 h
  have := b.toNat_lt
  omega
theorem bytesOf_str {xs : List Int} (h : ∀ x ∈ xs, 0 ≤ x ∧ x < 256) : bytesOf (strOfNums xs) = xs := by
  unfold bytesOf
  rw [strOfNums_data, List.map_map]
  conv => rhs; rw [← List.map_id xs]
  refine List.map_congr_left (fun x hx => ?_)
  have := h x hx
  simp only [Function.comp, UInt8.toNat_ofNat', id]
  omega
theorem str_bytesOf (s : ByteArray) : strOfNums (bytesOf s) = s := bytesOf_inj (bytesOf_str (fun _ => bytesOf_range))
theorem bytesOf_extract (s : ByteArray) (a b : Nat) : bytesOf (s.extract a b) = ((bytesOf s).drop a).take (b - a) := by
  unfold bytesOf
  rw [Lib.extract_data, List.map_take, List.map_drop]
theorem bytesOf_app (a b : ByteArray) : bytesOf (a ++ b) = bytesOf a ++ bytesOf b := by
  unfold bytesOf
  rw [← List.map_append]
  congr 1
  first | done | simp
theorem bt_getD (s : ByteArray) (i : Int) : bt s i = (bytesOf s).getD i.toNat 0 := (rd_bytesOf s i).symm
theorem bytesOf_empty : bytesOf (⟨#[]⟩ : ByteArray) = [] := rfl
theorem size_eq (s : ByteArray) : s.size = (bytesOf s).length := (bytesOf_length s).symm
theorem size_app (a b : ByteArray) : (a ++ b).size = a.size + b.size := by simp

theorem str_app (xs ys : List Int) : strOfNums xs ++ strOfNums ys = strOfNums (xs ++ ys) := by
  have h : ∀ zs, bytesOf (strOfNums zs) = zs.map (fun n => ((UInt8.ofNat n.toNat).toNat : Int)) := fun zs => by
    unfold bytesOf; rw [strOfNums_data, List.map_map]; rfl
  refine bytesOf_inj ?_
  rw [bytesOf_app, h, h, h, List.map_append]
theorem bap_assoc (a b c : ByteArray) : (a ++ b) ++ c = a ++ (b ++ c) := bytesOf_inj (by rw [bytesOf_app, bytesOf_app, bytesOf_app, bytesOf_app, List.append_assoc])

def itemT (a b c : Int) (s : ByteArray) : ByteArray := strOfNums (vtx a.toNat ++ [b, c] ++ vtx s.size) ++ s
theorem implShort (s : ByteArray) (hs : s.size ≤ 140737488351232) : Gets (fun k => impl_shortText.f k s) (· = strOfNums (vtx s.size) ++ s) := by
  unfold impl_shortText.f
  have hl := vtx_length 9 s.size (big128 (by omega))
  exact Gets.bindE (implVar s.size (by omega)).ev (Gets.pos (by rw [strOfNums_size]; omega) (Gets.ret rfl))
theorem implItemText_ (a b c : Int) (s : ByteArray) (h : itemB a b c s = true) : Gets (fun k => impl_itemText.f k a b c s) (· = itemT a b c s) := by
  have h := of_decide_eq_true h
  unfold impl_itemText.f
  obtain ⟨n, rfl⟩ := Int.eq_ofNat_of_zero_le (show 0 ≤ a by omega)
  have hl := vtx_length 9 s.size (big128 (by omega))
  have hl2 := vtx_length 9 n (big128 (by omega))
  refine Gets.bindE (implVar n (by omega)).ev (Gets.bindE (octets _ (by simp)).ev (Gets.pos (by simp only [strOfNums_size, List.length_map, List.length_cons, List.length_nil]; omega) ?_))
  refine Gets.bindE (implShort s (by omega)).ev (Gets.pos (by simp only [strOfNums_size, List.length_map, List.length_cons, List.length_nil, size_app]; omega) (Gets.ret ?_))
  unfold itemT
  rw [← bap_assoc, str_app, str_app, Int.toNat_natCast]
  simp only [List.map_cons, List.map_nil, show b % 256 = b by omega, show c % 256 = c by omega]
theorem implItemText (a b c : Int) (s : ByteArray) : Gets (fun k => impl_ItemText.f k a b c s) (· = if itemB a b c s = true then (itemT a b c s, true) else ((⟨#[]⟩ : ByteArray), false)) := by
  unfold impl_ItemText.f
  rw [implItemOk]
  simp only [Option.bind_some]
  refine Gets.ite (fun h => ?_) (fun h => Gets.ret ?_)
  · rw [if_pos h]; exact Gets.bindE (implItemText_ a b c s h).ev (Gets.ret rfl)
  · rw [if_neg h]
theorem specShort (s : ByteArray) (hs : s.size ≤ 140737488351232) : Gets (fun k => spec_l05Short.f k s) (· = strOfNums (vtx s.size) ++ s) := by
  unfold spec_l05Short.f
  have hl := vtx_length 9 s.size (big128 (by omega))
  exact Gets.bindE (specVar s.size (by omega)).ev (Gets.pos (by rw [strOfNums_size]; omega) (Gets.ret rfl))
theorem specItemText (a b c : Int) (s : ByteArray) : Gets (fun k => spec_ItemText.f k a b c s) (· = if itemB a b c s = true then (itemT a b c s, true) else ((⟨#[]⟩ : ByteArray), false)) := by
  unfold spec_ItemText.f spec_l05Byte.f
  rw [specItemOk]
  simp only [Option.bind_some]
  refine Gets.ite (fun h => ?_) (fun h => Gets.ret ?_)
  · rw [if_pos h]
    have h := of_decide_eq_true h
    obtain ⟨n, rfl⟩ := Int.eq_ofNat_of_zero_le (show 0 ≤ a by omega)
    have hl := vtx_length 9 s.size (big128 (by omega))
    have hl2 := vtx_length 9 n (big128 (by omega))
    refine Gets.bindE (specVar n (by omega)).ev (Gets.pos (by simp only [strOfNums_size, List.length_cons, List.length_nil]; omega) (Gets.pos (by simp only [strOfNums_size, List.length_cons, List.length_nil]; omega) ?_))
    refine Gets.bindE (specShort s (by omega)).ev (Gets.pos (by simp only [strOfNums_size, List.length_cons, List.length_nil, size_app]; omega) (Gets.ret ?_))
    unfold itemT
    rw [← bap_assoc, str_app, str_app, str_app, Int.toNat_natCast]
    simp only [show b % 256 = b by omega, show c % 256 = c by omega, List.append_assoc, List.singleton_append, List.cons_append, List.nil_append]
  · rw [if_neg h]

theorem szItem (a b c : Int) (s : ByteArray) (m : Int) (hs : s.size ≤ maxLen) (hm : 0 ≤ m ∧ m ≤ 9000000) : laws_szItem.f a b c s m = some (if m - s.size < 0 then -1 else m - s.size) := by
  unfold maxLen at hs
  unfold laws_szItem.f
  rw [wrapId (by omega) (by omega)]
  split <;> rfl

theorem FnExactItemText : Stat.FnExactItemText := by
  intro a b c s _ _ _ hs
  refine Gets.rounds ?_
  unfold laws_FnExactItemText.f laws_toItem.f
  rw [szItem a b c s _ hs (by omega)]
  simp only [Option.bind_some]
  refine Gets.ite (fun _ => Gets.ret rfl) (fun _ => ?_)
  exact Gets.bindE (specItemText a b c s).ev (Gets.bindE (implItemText a b c s).ev (Gets.pos rfl (Gets.neg (by simp) (Gets.ret rfl))))

end Go.Proofs.Ytlnmiafahjddhaa.Pure
