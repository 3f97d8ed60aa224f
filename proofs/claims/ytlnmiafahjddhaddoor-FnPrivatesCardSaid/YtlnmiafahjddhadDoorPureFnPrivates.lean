/- A drawn name of a daemon is split into both again, names that are no names make none, the listed tables being as the program's text lays them. -/
import Derived.Test.YtlnmiafahjddhadDoorStatFnPrivates
import Derived.Lib.Strings
set_option linter.unusedVariables false
set_option linter.unusedSimpArgs false
namespace Go.Proofs.YtlnmiafahjddhadDoor.Pure
open Go.RowKit Go.Proofs.YtlnmiafahjddhadDoor.PFnPrivates Go.Proofs.YtlnmiafahjddhadDoorW.PrintWords Go.Proofs.YtlnmiafahjddhadDoorW.PrintLast

/-! ### plain words: from some number of rounds on -/
def Gets {α : Type} (f : Nat → Option α) (Q : α → Prop) : Prop := ∃ r, Ev f r ∧ Q r
theorem Gets.ret {α : Type} {Q : α → Prop} {r : α} (h : Q r) : Gets (fun _ => some r) Q := ⟨r, Ev.now r, h⟩
theorem Gets.none {α : Type} {Q : α → Prop} (h : False) : Gets (fun _ => (Option.none : Option α)) Q := h.elim
theorem Gets.step {α : Type} {g f : Nat → Option α} {Q : α → Prop} (h : ∀ k, g (k + 1) = f k) (k : Gets f Q) : Gets g Q := by
  obtain ⟨r, hr, hq⟩ := k
  exact ⟨r, Ev.step h hr, hq⟩
theorem Ev.ite {α : Type} {c : Prop} [Decidable c] {f g : Nat → Option α} {r : α} (h : c → Ev f r) (k : ¬ c → Ev g r) : Ev (fun n => if c then f n else g n) r := by
  by_cases hc : c
  · simp only [hc, if_true]; exact h hc
  · simp only [hc, if_false]; exact k hc
theorem Gets.ite {α : Type} {c : Prop} [Decidable c] {f g : Nat → Option α} {Q : α → Prop} (h : c → Gets f Q) (k : ¬ c → Gets g Q) : Gets (fun n => if c then f n else g n) Q := by
  by_cases hc : c
  · simp only [hc, if_true]; exact h hc
  · simp only [hc, if_false]; exact k hc
theorem Gets.pos {α : Type} {c : Prop} [Decidable c] {f g : Nat → Option α} {Q : α → Prop} (hc : c) (h : Gets f Q) : Gets (fun n => if c then f n else g n) Q := by
  simp only [hc, if_true]; exact h
theorem Gets.neg {α : Type} {c : Prop} [Decidable c] {f g : Nat → Option α} {Q : α → Prop} (hc : ¬ c) (h : Gets g Q) : Gets (fun n => if c then f n else g n) Q := by
  simp only [hc, if_false]; exact h
theorem Gets.bind {α β : Type} {g : Nat → Option α} {f : Nat → α → Option β} {P : α → Prop} {Q : β → Prop} (h : Gets g P) (k : ∀ a, P a → Gets (fun n => f n a) Q) : Gets (fun n => (g n).bind (f n)) Q := by
  obtain ⟨a, ha, hp⟩ := h
  obtain ⟨r, hr, hq⟩ := k a hp
  exact ⟨r, Ev.bind ha hr, hq⟩
theorem Gets.bindE {α β : Type} {g : Nat → Option α} {f : Nat → α → Option β} {a : α} {Q : β → Prop} (h : Ev g a) (k : Gets (fun n => f n a) Q) : Gets (fun n => (g n).bind (f n)) Q := by
  obtain ⟨r, hr, hq⟩ := k
  exact ⟨r, Ev.bind h hr, hq⟩
theorem Gets.mono {α : Type} {f : Nat → Option α} {P Q : α → Prop} (h : Gets f P) (k : ∀ a, P a → Q a) : Gets f Q := by
  obtain ⟨r, hr, hp⟩ := h
  exact ⟨r, hr, k r hp⟩
theorem Gets.rounds {α : Type} {f : Nat → Option α} {r : α} (h : Gets f (· = r)) : ∃ k, f k = some r := by
  obtain ⟨a, ha, rfl⟩ := h
  exact ha.rounds
theorem Gets.ev {α : Type} {f : Nat → Option α} {r : α} (h : Gets f (· = r)) : Ev f r := by
  obtain ⟨a, ha, rfl⟩ := h
  exact ha
theorem Ev.gets {α : Type} {f : Nat → Option α} {r : α} {Q : α → Prop} (h : Ev f r) (hq : Q r) : Gets f Q := ⟨r, h, hq⟩
theorem Gets.same {α : Type} {o : Option α} {Q : α → Prop} {r : α} (h : o = some r) (hq : Q r) : Gets (fun _ => o) Q := by
  subst h; exact Gets.ret hq
theorem wrapId {x : Int} (h0 : -9223372036854775808 ≤ x) (h1 : x ≤ 9223372036854775807) : wrap64 x = x := by
  unfold wrap64; omega
theorem i64_bd {n : Int} (h : (Lit.int .i64 n).wf = true) : -9223372036854775808 ≤ n ∧ n ≤ 9223372036854775807 := by
  have hm : IntKind.i64.min = -9223372036854775808 := rfl
  simp [Lit.wf, hm] at h
  exact h
theorem boolEq {a b : Bool} {P Q : Prop} (ha : a = true ↔ P) (hb : b = true ↔ Q) (h : P ↔ Q) : a = b := by
  rw [Bool.eq_iff_iff, ha, hb, h]
theorem tmod_nn {a b : Int} (h : 0 ≤ a) : Int.tmod a b = a % b := Int.tmod_eq_emod_of_nonneg h
theorem tdiv_nn {a b : Int} (h : 0 ≤ a) : Int.tdiv a b = a / b := Int.tdiv_eq_ediv_of_nonneg h

/-! ### rows of numbers -/
theorem rd_get {l : List Int} {i : Int} (h : i.toNat < l.length) : rd l i = l[i.toNat] := by
  unfold rd; rw [List.getD_eq_getElem?_getD, List.getElem?_eq_getElem h]; rfl
theorem fill_step {α : Type} (l : List α) (d : α) (i : Nat) (h : i < l.length) : (l.take i ++ List.replicate (l.length - i) d).set i l[i] = l.take (i + 1) ++ List.replicate (l.length - (i + 1)) d := by
  have e : List.replicate (l.length - i) d = d :: List.replicate (l.length - (i + 1)) d := by
    rw [show l.length - i = (l.length - (i + 1)) + 1 by omega]; rfl
  rw [e, List.set_append_right _ _ (by rw [List.length_take]; omega), List.length_take, show i - min i l.length = 0 by omega, List.set_cons_zero, List.take_succ_eq_append_getElem h, List.append_assoc]
  rfl
theorem drop_at {α : Type} (l : List α) (i : Nat) (h : i < l.length) : l.drop i = l[i] :: l.drop (i + 1) := List.drop_eq_getElem_cons h
def marks (k : Int) (n : Nat) : List Int := (List.range n).map (fun (i : Nat) => k + (i : Int))
theorem marks_length (k : Int) (n : Nat) : (marks k n).length = n := by simp [marks]
theorem marks_get (k : Int) (n i : Nat) (h : i < n) : (marks k n)[i]'(by rw [marks_length]; exact h) = k + i := by simp [marks]

/-! ### texts as lists of numbers -/
theorem bytesOf_inj {a b : ByteArray} (h : bytesOf a = bytesOf b) : a = b := by
  have hl : a.data.toList = b.data.toList := by
    unfold bytesOf at h
    exact List.map_inj_right (fun x y hxy => UInt8.toNat_inj.1 (by exact_mod_cast hxy)) |>.1 h
  have hd : a.data = b.data := Array.toList_inj.1 hl
  cases a; cases b; cases hd; rfl
theorem toList_iff (a b : ByteArray) : a.toList = b.toList ↔ a = b := by
  rw [Lib.toList_data, Lib.toList_data]
  exact ⟨fun h => bytesOf_inj (by unfold bytesOf; rw [h]), fun h => by rw [h]⟩
theorem bytesOf_range {s : ByteArray} {x : Int} (h : x ∈ bytesOf s) : 0 ≤ x ∧ x < 256 := by
  unfold bytesOf at h
  obtain ⟨b, _, rfl⟩ := List.mem_map.1 h
  have := b.toNat_lt
  omega
theorem bytesOf_str {xs : List Int} (h : ∀ x ∈ xs, 0 ≤ x ∧ x < 256) : bytesOf (strOfNums xs) = xs := by
  unfold bytesOf
  rw [strOfNums_data, List.map_map]
  conv => rhs; rw [← List.map_id xs]
  refine List.map_congr_left (fun x hx => ?_)
  have := h x hx
  simp only [Function.comp, UInt8.toNat_ofNat', id]
  omega
theorem str_bytesOf (s : ByteArray) : strOfNums (bytesOf s) = s := bytesOf_inj (bytesOf_str (fun _ => bytesOf_range))
theorem bytesOf_extract (s : ByteArray) (a b : Nat) : bytesOf (s.extract a b) = ((bytesOf s).drop a).take (b - a) := by
  unfold bytesOf
  rw [Lib.extract_data, List.map_take, List.map_drop]
theorem bytesOf_app (a b : ByteArray) : bytesOf (a ++ b) = bytesOf a ++ bytesOf b := by
  unfold bytesOf
  rw [← List.map_append]
  congr 1
  first | done | simp
theorem bt_getD (s : ByteArray) (i : Int) : bt s i = (bytesOf s).getD i.toNat 0 := (rd_bytesOf s i).symm
theorem bytesOf_empty : bytesOf (⟨#[]⟩ : ByteArray) = [] := rfl
theorem size_eq (s : ByteArray) : s.size = (bytesOf s).length := (bytesOf_length s).symm
theorem size_app (a b : ByteArray) : (a ++ b).size = a.size + b.size := by simp

theorem rdS_get {l : List ByteArray} {i : Int} (h : i.toNat < l.length) : rdOf ByteArray.empty l i = l[i.toNat] := by
  unfold rdOf; rw [List.getD_eq_getElem?_getD, List.getElem?_eq_getElem h]; rfl
def shortL (l : List ByteArray) : Bool := l.all (fun s => decide ((s.size : Int) ≤ 60))
theorem shortL_iff (l : List ByteArray) : shortL l = true ↔ ∀ s ∈ l, s.size ≤ 60 := by
  unfold shortL
  rw [List.all_eq_true]
  exact ⟨fun h s hs => by have := of_decide_eq_true (h s hs); omega, fun h s hs => decide_eq_true (by have := h s hs; omega)⟩
theorem shortL_cons (s : ByteArray) (l : List ByteArray) : shortL (s :: l) = (decide ((s.size : Int) ≤ 60) && shortL l) := rfl

def S35 : ByteArray := ⟨#[35]⟩
theorem idx1 (l : List UInt8) : (Lib.index l [35] = -1 ∧ ∀ b ∈ l, b ≠ 35) ∨ ∃ p q, l = p ++ 35 :: q ∧ (∀ b ∈ p, b ≠ 35) ∧ Lib.index l [35] = (p.length : Int) := by
  induction l with
  | nil => exact .inl ⟨rfl, by simp⟩
  | cons b l ih =>
    by_cases hb : b = 35
    · subst hb
      exact .inr ⟨[], l, rfl, by simp, by simp [Lib.index, List.isPrefixOf]⟩
    · have e : Lib.index (b :: l) [35] = if Lib.index l [35] == -1 then -1 else Lib.index l [35] + 1 := by
        rw [Lib.index]
        rw [if_neg]
        simp [List.isPrefixOf]
        exact fun h => hb h.symm
      rw [e]
      rcases ih with ⟨h1, h2⟩ | ⟨p, q, h1, h2, h3⟩
      · refine .inl ⟨by rw [h1]; rfl, fun c hc => ?_⟩
        rcases List.mem_cons.1 hc with rfl | hc
        · exact hb
        · exact h2 c hc
      · refine .inr ⟨b :: p, q, by rw [h1]; rfl, fun c hc => ?_, ?_⟩
        · rcases List.mem_cons.1 hc with rfl | hc
          · exact hb
          · exact h2 c hc
        · rw [h3, if_neg (by first | (simp; done) | (simp; omega))]; simp
def splitW : List Int → List Int → List (List Int)
  | c, [] => [c]
  | c, b :: t => if b = 35 then c :: splitW [] t else splitW (c ++ [b]) t
theorem splitW_no (L : List Int) : ∀ c, (∀ b ∈ L, b ≠ 35) → splitW c L = [c ++ L] := by
  induction L with
  | nil => intro c _; simp [splitW]
  | cons b L ih =>
    intro c h
    rw [splitW, if_neg (h b (List.mem_cons_self ..)), ih _ (fun x hx => h x (List.mem_cons_of_mem _ hx))]
    simp
theorem splitW_hit (P Q : List Int) : ∀ c, (∀ b ∈ P, b ≠ 35) → splitW c (P ++ 35 :: Q) = (c ++ P) :: splitW [] Q := by
  induction P with
  | nil => intro c _; simp [splitW]
  | cons b P ih =>
    intro c h
    rw [List.cons_append, splitW, if_neg (h b (List.mem_cons_self ..)), ih _ (fun x hx => h x (List.mem_cons_of_mem _ hx))]
    simp
theorem ne35 (p : List UInt8) (h : ∀ b ∈ p, b ≠ 35) : ∀ b ∈ p.map (fun b => (b.toNat : Int)), b ≠ 35 := by
  intro b hb
  obtain ⟨x, hx, rfl⟩ := List.mem_map.1 hb
  intro h1
  exact h x hx (UInt8.toNat_inj.1 (by show x.toNat = 35; omega))
theorem splitB_W (n : Nat) : ∀ s : ByteArray, s.size ≤ n → (Lib.splitB S35 0 (Lib.countB s S35) s).map bytesOf = splitW [] (bytesOf s) := by
  induction n using Nat.strongRecOn with
  | _ n ih =>
  intro s hn
  have hsep : S35.data.toList = [35] := rfl
  have hb : bytesOf s = s.data.toList.map (fun b => (b.toNat : Int)) := rfl
  have hz := size_eq s
  rcases idx1 s.data.toList with ⟨h1, h2⟩ | ⟨p, q, h1, h2, h3⟩
  · have hm : Lib.indexB s S35 = -1 := by show Lib.index s.data.toList S35.data.toList = -1; rw [hsep]; exact h1
    rw [Lib.splitB_miss _ _ _ _ hm, hb, splitW_no _ _ (ne35 _ h2)]
    simp [hb]
  · have hm : Lib.indexB s S35 = (p.length : Int) := by show Lib.index s.data.toList S35.data.toList = _; rw [hsep]; exact h3
    have hpl : s.size = p.length + 1 + q.length := by rw [hz, hb, h1]; simp; omega
    have hcount := Lib.countB_hit s S35 p.length (by decide) hm
    have e1 : bytesOf (s.extract 0 (p.length + 0)) = p.map (fun b => (b.toNat : Int)) := by
      rw [bytesOf_extract, hb, h1]; simp
    have e2 : bytesOf (s.extract (p.length + S35.size) s.size) = q.map (fun b => (b.toNat : Int)) := by
      rw [bytesOf_extract, hb, h1, show S35.size = 1 from rfl]
      rw [List.take_of_length_le (by simp; omega), List.map_append, List.map_cons]
      rw [show p.length + 1 = (p.map (fun b : UInt8 => (b.toNat : Int)) ++ [((35 : UInt8).toNat : Int)]).length by simp]
      rw [show p.map (fun b : UInt8 => (b.toNat : Int)) ++ ((35 : UInt8).toNat : Int) :: q.map (fun b : UInt8 => (b.toNat : Int)) = (p.map (fun b : UInt8 => (b.toNat : Int)) ++ [((35 : UInt8).toNat : Int)]) ++ q.map (fun b : UInt8 => (b.toNat : Int)) by simp]
      rw [List.drop_left]
    have e3 : (s.extract (p.length + S35.size) s.size).size < n := by
      rw [size_eq, e2]; simp; omega
    rw [hcount, Nat.add_comm 1, Lib.splitB_hit _ _ _ _ _ hm, List.map_cons, e1, ih _ e3 _ (Nat.le_refl _), e2, hb, h1, List.map_append, List.map_cons]
    rw [show ((35 : UInt8).toNat : Int) = 35 from rfl, splitW_hit _ _ _ (ne35 _ h2)]
    rfl
theorem map_inj (a b : List ByteArray) (h : a.map bytesOf = b.map bytesOf) : a = b := (List.map_inj_right (fun _ _ h => bytesOf_inj h)).1 h
theorem splitW_len (L : List Int) : ∀ c, ∀ x ∈ splitW c L, x.length ≤ c.length + L.length := by
  induction L with
  | nil => intro c x hx; simp [splitW] at hx; rw [hx]; simp
  | cons b L ih =>
    intro c x hx
    rw [splitW] at hx
    split at hx
    · rcases List.mem_cons.1 hx with rfl | hx
      · simp
      · have := ih [] x hx; simp at this ⊢; omega
    · have := ih _ x hx; simp at this ⊢; omega

def decT (n : Int) : ByteArray := ⟨(Lib.itoa n).toArray⟩
def numsU (l : List UInt8) : List Int := l.map fun b => (b.toNat : Int)
theorem bytesOf_mk (l : List UInt8) : bytesOf (⟨l.toArray⟩ : ByteArray) = numsU l := by unfold bytesOf numsU; simp
def digsU (u : Nat) : List Int := if u = 0 then [] else numsU (Lib.decDigits u)
theorem digsU_step (u : Nat) (h : u ≠ 0) : digsU u = digsU (u / 10) ++ [48 + ((u % 10 : Nat) : Int)] := by
  unfold digsU
  rw [if_neg h]
  have hb : ∀ v : Nat, v < 10 → ((UInt8.ofNat (48 + v)).toNat : Int) = 48 + (v : Int) := by
    intro v hv
    simp only [UInt8.toNat_ofNat']
    omega
  by_cases h1 : u < 10
  · rw [if_pos (by omega), Lib.decDigits_one h1]
    simp only [numsU, List.map_cons, List.map_nil, List.nil_append, hb u h1]
    rw [Nat.mod_eq_of_lt h1]
  · rw [if_neg (by omega), Lib.decDigits, dif_neg h1]
    simp only [numsU, List.map_append, List.map_cons, List.map_nil, hb (u % 10) (Nat.mod_lt _ (by omega))]
theorem digsU_range (u : Nat) : ∀ x ∈ digsU u, 0 ≤ x ∧ x < 256 := by
  intro x hx
  unfold digsU at hx
  split at hx
  · simp at hx
  · unfold numsU at hx
    obtain ⟨b, _, rfl⟩ := List.mem_map.1 hx
    have := b.toNat_lt
    omega
theorem decT_bytes (n : Int) (h : n ≠ 0) : bytesOf (decT n) = (if n < 0 then [45] else []) ++ digsU n.natAbs := by
  unfold decT digsU Lib.itoa
  rw [bytesOf_mk, if_neg (show ¬ n.natAbs = 0 by omega)]
  by_cases h1 : n < 0
  · rw [if_pos h1, if_pos h1]; rfl
  · rw [if_neg h1, if_neg h1, show n.toNat = n.natAbs by omega]; rfl
theorem decT_zero : decT 0 = (⟨#[48]⟩ : ByteArray) := bytesOf_inj (by unfold decT Lib.itoa; rw [if_neg (by omega), Int.toNat_zero, Lib.decDigits_one (by omega)]; rfl)
theorem decT_size (n : Int) (h : 0 ≤ n ∧ n < 10) : (decT n).size = 1 := by
  rw [size_eq]
  unfold decT Lib.itoa
  rw [bytesOf_mk, if_neg (show ¬ n < 0 by omega), Lib.decDigits_one (show n.toNat < 10 by omega)]
  rfl

theorem implDecimal (n : Int) (h : -9223372036854775808 ≤ n ∧ n ≤ 9223372036854775807) : impl_Decimal.f n = some (decT n) := by
  unfold impl_Decimal.f strconv_Itoa.f
  rw [if_pos h]; rfl

def okAt (s : ByteArray) (j : Int) : Prop := (97 ≤ bt s j ∧ bt s j ≤ 122) ∨ (j ≠ 0 ∧ 48 ≤ bt s j ∧ bt s j ≤ 57)
def nameP (s : ByteArray) : Prop := (∀ j : Int, 0 ≤ j → j < s.size → okAt s j) ∧ 1 ≤ s.size ∧ s.size ≤ 12
theorem implName_l0 (s : ByteArray) (hs : s.size ≤ 140737488351232) (d : Nat) : ∀ i : Int, 0 ≤ i → (s.size : Int) - i = d →
    Gets (fun k => impl_NameOk.l0 k s i) (fun b => b = true ↔ (∀ j : Int, i ≤ j → j < s.size → okAt s j) ∧ 1 ≤ s.size ∧ s.size ≤ 12) := by
  induction d with
  | zero =>
    intro i h0 hd
    refine Gets.step (fun k => impl_NameOk.l0.eq_2 ..) ?_
    refine Gets.neg (by omega) ?_
    unfold impl_inRange.f
    refine Gets.bind (P := fun b => b = true ↔ 1 ≤ s.size ∧ s.size ≤ 12) ?_ (fun a ha => Gets.ret ?_)
    · refine Gets.ite (fun h => Gets.ret ?_) (fun h => Gets.ret ?_)
      · simp; omega
      · simp; omega
    · rw [ha]
      exact ⟨fun h => ⟨fun j h1 h2 => by omega, h⟩, fun h => h.2⟩
  | succ d ih =>
    intro i h0 hd
    refine Gets.step (fun k => impl_NameOk.l0.eq_2 ..) ?_
    refine Gets.pos (by omega) (Gets.pos h0 ?_)
    have hi := ih (i + 1) (by omega) (by omega)
    rw [wrapId (by omega) (by omega)]
    have yes : okAt s i → Gets (fun k => impl_NameOk.l0 k s (i + 1)) (fun b => b = true ↔ (∀ j : Int, i ≤ j → j < s.size → okAt s j) ∧ 1 ≤ s.size ∧ s.size ≤ 12) := fun ho => hi.mono (fun b hb => by
      rw [hb]
      refine ⟨fun h => ⟨fun j h1 h2 => ?_, h.2⟩, fun h => ⟨fun j h1 h2 => h.1 j (by omega) h2, h.2⟩⟩
      by_cases e : j = i
      · subst e; exact ho
      · exact h.1 j (by omega) h2)
    have no : ¬ okAt s i → Gets (fun _ => some false) (fun b => b = true ↔ (∀ j : Int, i ≤ j → j < s.size → okAt s j) ∧ 1 ≤ s.size ∧ s.size ≤ 12) := fun ho => Gets.ret (by
      simp only [Bool.false_eq_true, false_iff]
      exact fun h => ho (h.1 i (by omega) (by omega)))
    unfold okAt at yes no
    repeat' (first | refine Gets.ite (fun h => ?_) (fun h => ?_) | exact yes (by omega) | exact no (by omega))
theorem implName (s : ByteArray) (hs : s.size ≤ 140737488351232) : Gets (fun k => impl_NameOk.f k s) (fun b => b = true ↔ nameP s) := by
  unfold impl_NameOk.f
  exact implName_l0 s hs s.size 0 (by omega) (by omega)

theorem inR (x a b : Int) : impl_inRange.f x a b = some (decide (a ≤ x ∧ x ≤ b)) := by
  unfold impl_inRange.f
  by_cases h : x ≥ a
  · rw [if_pos h]; simp [show a ≤ x from h]
  · rw [if_neg h]; simp [show ¬ a ≤ x from h]

def privT (n : Int) (s : ByteArray) : ByteArray := (((⟨#[35]⟩ : ByteArray) ++ decT n) ++ (⟨#[35]⟩ : ByteArray)) ++ s
theorem one35 : (⟨#[35]⟩ : ByteArray).size = 1 := rfl
open Classical in
theorem implPriv (n : Int) (s : ByteArray) (hn : -9223372036854775808 ≤ n ∧ n ≤ 9223372036854775807) (hs : s.size ≤ 1048576) : Gets (fun k => impl_PrivateName.f k n s) (· = if (1 ≤ n ∧ n ≤ 9) ∧ nameP s then privT n s else (⟨#[]⟩ : ByteArray)) := by
  unfold impl_PrivateName.f
  rw [inR]
  simp only [Option.bind_some]
  refine Gets.ite (fun h1 => ?_) (fun h1 => Gets.ret ?_)
  · have h1 := of_decide_eq_true h1
    refine Gets.bind (implName s (by omega)) (fun b hb => Gets.ite (fun h2 => ?_) (fun h2 => Gets.ret ?_))
    · rw [implDecimal n hn]
      have hd := decT_size n (by omega)
      simp only [Option.bind_some]
      refine Gets.pos (by omega) (Gets.pos (by omega) (Gets.pos (by omega) (Gets.ret ?_)))
      rw [if_pos ⟨h1, hb.1 h2⟩]; rfl
    · rw [if_neg (fun h => h2 (hb.2 h.2))]
  · rw [if_neg (fun h => h1 (decide_eq_true h.1))]

/-! ### numbers in bytes -/
def vtx (n : Nat) : List Int := if h : 127 < n then (128 + (n % 128 : Nat) : Int) :: vtx (n / 128) else [(n : Int)]
termination_by n
decreasing_by omega
theorem vtx_small {n : Nat} (h : n ≤ 127) : vtx n = [(n : Int)] := by rw [vtx, dif_neg (by omega)]
theorem vtx_big {n : Nat} (h : 127 < n) : vtx n = (128 + (n % 128 : Nat) : Int) :: vtx (n / 128) := by rw [vtx, dif_pos h]
theorem vtx_length (j : Nat) : ∀ n : Nat, n < 128 ^ (j + 1) → 1 ≤ (vtx n).length ∧ (vtx n).length ≤ j + 1 := by
  induction j with
  | zero => intro n h; rw [vtx_small (by omega)]; simp
  | succ j ih =>
    intro n h
    rcases Nat.lt_or_ge 127 n with h1 | h1
    · rw [vtx_big h1]
      have hp : (128 : Nat) ^ (j + 1 + 1) = 128 ^ (j + 1) * 128 := Nat.pow_succ ..
      have h2 : n / 128 < 128 ^ (j + 1) := by rw [Nat.div_lt_iff_lt_mul (by omega)]; omega
      have := ih _ h2
      simp only [List.length_cons]
      omega
    · rw [vtx_small h1]; simp
theorem big128 {n : Nat} (h : n ≤ 9223372036854775807) : n < 128 ^ (9 + 1) := by
  have : (128 : Nat) ^ (9 + 1) = 1180591620717411303424 := by decide
  omega

def val : List Int → Int
  | [] => 0
  | b :: l => b % 128 + 128 * val l
theorem val_bd (l : List Int) : 0 ≤ val l ∧ val l < 128 ^ l.length := by
  induction l with
  | nil => simp [val]
  | cons b l ih =>
    simp only [val, List.length_cons, Int.pow_succ]
    omega
theorem val_snoc (l : List Int) (b : Int) : val (l ++ [b]) = val l + b % 128 * 128 ^ l.length := by
  induction l with
  | nil => simp [val]
  | cons c l ih =>
    simp only [List.cons_append, val, ih, List.length_cons, Int.pow_succ]
    rw [Int.mul_add, Int.mul_left_comm 128 (b % 128), Int.mul_comm 128 (128 ^ l.length)]
    omega
theorem vtx_last (j : Nat) : ∀ n : Nat, n < 128 ^ (j + 1) → n ≠ 0 → (vtx n).getLast? ≠ some 0 := by
  induction j with
  | zero => intro n h h0; rw [vtx_small (by omega)]; simp; omega
  | succ j ih =>
    intro n h h0
    rcases Nat.lt_or_ge 127 n with h1 | h1
    · have hp : (128 : Nat) ^ (j + 1 + 1) = 128 ^ (j + 1) * 128 := Nat.pow_succ ..
      have h2 : n / 128 < 128 ^ (j + 1) := by rw [Nat.div_lt_iff_lt_mul (by omega)]; omega
      have := ih _ h2 (by omega)
      rw [vtx_big h1]
      have hl := (vtx_length j _ h2).1
      rw [List.getLast?_cons]
      intro h3
      cases h4 : (vtx (n / 128)).getLast? with
      | none => rw [List.getLast?_eq_none_iff] at h4; rw [h4] at hl; simp at hl
      | some z => rw [h4] at h3 this; exact this h3
    · rw [vtx_small h1]; simp; omega
/-- What a number's bytes come to is their number, unless the last of several is 0. -/
theorem vtx_val (pre : List Int) (b : Int) (hb : 0 ≤ b ∧ b < 128) : (∀ x ∈ pre, 128 ≤ x ∧ x < 256) → (b ≠ 0 ∨ pre = []) → vtx (val (pre ++ [b])).toNat = pre ++ [b] := by
  induction pre with
  | nil =>
    intro _ _
    simp only [List.nil_append, val]
    rw [vtx_small (by omega)]
    simp; omega
  | cons c l ih =>
    intro hp h
    have h0 : b ≠ 0 := by
      rcases h with h | h
      · exact h
      · cases h
    have hc := hp c List.mem_cons_self
    have ih' := ih (fun x hx => hp x (List.mem_cons_of_mem _ hx)) (.inl h0)
    have hv := (val_bd (l ++ [b])).1
    have hpos : 1 ≤ val (l ++ [b]) := by
      rw [val_snoc]
      have h1 := (val_bd l).1
      have h2 : (1 : Int) ≤ 128 ^ l.length := Int.pow_pos (by omega)
      have h3 : 1 * 1 ≤ b % 128 * 128 ^ l.length := Int.mul_le_mul (by omega) h2 (by omega) (by omega)
      omega
    simp only [List.cons_append, val]
    have e1 : ((c % 128 + 128 * val (l ++ [b])).toNat) / 128 = (val (l ++ [b])).toNat := by omega
    have e2 : (((c % 128 + 128 * val (l ++ [b])).toNat % 128 : Nat) : Int) = c - 128 := by omega
    rw [vtx_big (by omega), e1, e2, ih']
    congr 1
    omega
theorem vtx_val_not (pre : List Int) (hp : pre ≠ []) (hlen : pre.length ≤ 8) : vtx (val (pre ++ [0])).toNat ≠ pre ++ [0] := by
  intro h
  have hb := val_bd (pre ++ [0])
  have hpw : (128 : Int) ^ (pre ++ [0]).length ≤ 128 ^ 9 := by
    have : (pre ++ [(0 : Int)]).length ≤ 9 := by simp; omega
    exact_mod_cast Nat.pow_le_pow_right (by omega) this
  rcases Nat.eq_zero_or_pos (val (pre ++ [0])).toNat with h0 | h0
  · rw [h0, vtx_small (by omega)] at h
    have := congrArg List.length h
    simp at this
    exact hp this
  · have h9 : (128 : Int) ^ 9 = 9223372036854775808 := by decide
    refine vtx_last 9 (val (pre ++ [0])).toNat ?_ (by omega) (by rw [h]; simp)
    exact Nat.lt_of_lt_of_le (m := 9223372036854775808) (by omega) (by decide)
theorem vtx_iff (pre : List Int) (b : Int) (hb : 0 ≤ b ∧ b < 128) (hp : ∀ x ∈ pre, 128 ≤ x ∧ x < 256) (hlen : pre.length ≤ 8) : vtx (val (pre ++ [b])).toNat = pre ++ [b] ↔ ¬ (b = 0 ∧ pre ≠ []) := by
  constructor
  · rintro h ⟨rfl, hne⟩
    exact vtx_val_not pre hne hlen h
  · intro h
    refine vtx_val pre b hb hp ?_
    by_cases h0 : b = 0
    · right
      by_cases h1 : pre = []
      · exact h1
      · exact absurd ⟨h0, h1⟩ h
    · exact .inl h0
theorem vtx_range (j : Nat) : ∀ n : Nat, n < 128 ^ (j + 1) → ∀ x ∈ vtx n, 0 ≤ x ∧ x < 256 := by
  induction j with
  | zero => intro n h x hx; rw [vtx_small (by omega)] at hx; simp at hx; omega
  | succ j ih =>
    intro n h x hx
    rcases Nat.lt_or_ge 127 n with h1 | h1
    · have hp : (128 : Nat) ^ (j + 1 + 1) = 128 ^ (j + 1) * 128 := Nat.pow_succ ..
      have h2 : n / 128 < 128 ^ (j + 1) := by rw [Nat.div_lt_iff_lt_mul (by omega)]; omega
      rw [vtx_big h1] at hx
      rcases List.mem_cons.1 hx with rfl | hx
      · omega
      · exact ih _ h2 x hx
    · rw [vtx_small h1] at hx; simp at hx; omega
/-- What is read of bytes 'rest' behind 'pre'. -/
def rdv : Nat → List Int → List Int → Int → Int × Int × Bool
  | 0, _, _, _ => (0, 0, false)
  | _ + 1, [], _, _ => (0, 0, false)
  | f + 1, b :: l, pre, a => if 128 ≤ b then rdv f l (pre ++ [b]) a else if (b = 0 ∧ pre ≠ []) ∨ val (pre ++ [b]) > 1000000000 then (0, 0, false) else (val (pre ++ [b]), a + pre.length + 1, true)
theorem rdv_more {f : Nat} {b a : Int} {l pre : List Int} (h : 128 ≤ b) : rdv (f + 1) (b :: l) pre a = rdv f l (pre ++ [b]) a := by rw [rdv, if_pos h]
theorem rdv_no {f : Nat} {b a : Int} {l pre : List Int} (h : b < 128) (h2 : (b = 0 ∧ 0 < pre.length) ∨ val (pre ++ [b]) > 1000000000) : rdv (f + 1) (b :: l) pre a = (0, 0, false) := by
  rw [rdv, if_neg (by omega), if_pos (by rwa [← List.length_pos_iff])]
theorem rdv_yes {f : Nat} {b a : Int} {l pre : List Int} (h : b < 128) (h2 : ¬ (b = 0 ∧ 0 < pre.length)) (h3 : val (pre ++ [b]) ≤ 1000000000) : rdv (f + 1) (b :: l) pre a = (val (pre ++ [b]), a + pre.length + 1, true) := by
  rw [rdv, if_neg (by omega), if_neg (by rw [← List.length_pos_iff]; omega)]
theorem pw5 {i : Nat} (h : i ≤ 5) : (1 : Int) ≤ 128 ^ i ∧ (128 : Int) ^ i ≤ 34359738368 := by
  constructor
  · exact Int.pow_pos (by omega)
  · have h2 : (128 : Int) ^ i ≤ 128 ^ 5 := by exact_mod_cast Nat.pow_le_pow_right (by omega) h
    have : (128 : Int) ^ 5 = 34359738368 := by decide
    omega
theorem bt_mid {s : ByteArray} {A pre l : List Int} {b a : Int} (ha : a = A.length) (h : bytesOf s = A ++ (pre ++ b :: l)) : bt s (a + pre.length) = b := by
  rw [bt_getD, h, show (a + (pre.length : Int)).toNat = A.length + pre.length by omega, ← List.append_assoc, List.getD_eq_getElem?_getD, List.getElem?_append_right (by simp)]
  simp

theorem drop_atL (l : List Int) (i : Nat) (h : i < l.length) : l.drop i = l.getD i 0 :: l.drop (i + 1) := by
  rw [List.drop_eq_getElem_cons h, List.getD_eq_getElem?_getD, List.getElem?_eq_getElem h]; rfl
theorem bt_bd0 (s : ByteArray) (i : Int) : 0 ≤ bt s i ∧ bt s i < 256 := by
  rw [bt_getD, List.getD_eq_getElem?_getD]
  rcases h : (bytesOf s)[i.toNat]? with _ | x
  · simp
  · exact bytesOf_range (List.mem_of_getElem? h)
def figL (n : Int) : Int := if n < 10 then 48 + n else 87 + n
def hexL : List Int → List Int
  | [] => []
  | b :: t => figL (b / 16) :: figL (b % 16) :: hexL t
def hexT (s : ByteArray) : ByteArray × Bool := if (s.size : Int) > 20000 then ((⟨#[]⟩ : ByteArray), false) else (strOfNums (hexL (bytesOf s)), true)
def valL (b : Int) : Int := if 48 ≤ b ∧ b ≤ 57 then b - 48 else if 97 ≤ b ∧ b ≤ 102 then b - 87 else -1
theorem valL_bd (b : Int) : -1 ≤ valL b ∧ valL b < 16 := by unfold valL; split; omega; split <;> omega
def unhexT : List Int → List Int → ByteArray × Bool
  | acc, a :: b :: t => if valL a < 0 then ((⟨#[]⟩ : ByteArray), false) else if valL b < 0 then ((⟨#[]⟩ : ByteArray), false) else unhexT (acc ++ [valL a * 16 + valL b]) t
  | acc, _ => (strOfNums acc, true)

theorem val_vtx (j : Nat) : ∀ n : Nat, n < 128 ^ (j + 1) → val (vtx n) = n := by
  induction j with
  | zero => intro n h; rw [vtx_small (by omega)]; simp only [val]; omega
  | succ j ih =>
    intro n h
    rcases Nat.lt_or_ge 127 n with h1 | h1
    · have hp : (128 : Nat) ^ (j + 1 + 1) = 128 ^ (j + 1) * 128 := Nat.pow_succ ..
      have h2 : n / 128 < 128 ^ (j + 1) := by rw [Nat.div_lt_iff_lt_mul (by omega)]; omega
      rw [vtx_big h1, val, ih _ h2]; omega
    · rw [vtx_small h1]; simp only [val]; omega
theorem rdv_vtx (j : Nat) : ∀ (m f : Nat) (pre Y : List Int) (a : Int), m < 128 ^ (j + 1) → j + 1 ≤ f → (m ≠ 0 ∨ pre = []) → val (pre ++ vtx m) ≤ 1000000000 → rdv f (vtx m ++ Y) pre a = (val (pre ++ vtx m), a + pre.length + (vtx m).length, true) := by
  induction j with
  | zero =>
    intro m f pre Y a h hf h0 hv
    obtain ⟨f, rfl⟩ : ∃ g, f = g + 1 := ⟨f - 1, by omega⟩
    rw [vtx_small (by omega)] at hv ⊢
    rw [List.singleton_append, rdv_yes (by omega) (fun hh => ?_) hv]
    · simp
    · rcases h0 with h0 | h0
      · omega
      · rw [h0] at hh; simp at hh
  | succ j ih =>
    intro m f pre Y a h hf h0 hv
    obtain ⟨f, rfl⟩ : ∃ g, f = g + 1 := ⟨f - 1, by omega⟩
    rcases Nat.lt_or_ge 127 m with h1 | h1
    · have hp : (128 : Nat) ^ (j + 1 + 1) = 128 ^ (j + 1) * 128 := Nat.pow_succ ..
      have h2 : m / 128 < 128 ^ (j + 1) := by rw [Nat.div_lt_iff_lt_mul (by omega)]; omega
      rw [vtx_big h1] at hv ⊢
      have e : pre ++ (128 + (m % 128 : Nat) : Int) :: vtx (m / 128) = (pre ++ [(128 + (m % 128 : Nat) : Int)]) ++ vtx (m / 128) := by simp
      rw [e] at hv ⊢
      rw [List.cons_append, rdv_more (by omega), ih (m / 128) f _ Y a h2 (by omega) (.inl (by omega)) hv]
      simp only [List.length_append, List.length_cons, List.length_nil, Prod.mk.injEq, true_and, and_true]
      omega
    · rw [vtx_small h1] at hv ⊢
      rw [List.singleton_append, rdv_yes (by omega) (fun hh => ?_) hv]
      · simp
      · rcases h0 with h0 | h0
        · omega
        · rw [h0] at hh; simp at hh
theorem rdv_back (n : Nat) (hn : n ≤ 1000000000) (Y : List Int) (a : Int) : rdv 5 (vtx n ++ Y) [] a = ((n : Int), a + (vtx n).length, true) := by
  have hp : (128 : Nat) ^ (4 + 1) = 34359738368 := by decide
  have hv := val_vtx 4 n (by omega)
  rw [rdv_vtx 4 n 5 [] Y a (by omega) (by omega) (.inr rfl) (by rw [List.nil_append, hv]; omega), List.nil_append, hv]
  simp
theorem valF2 : ∀ n : Fin 16, valL (figL ((n.val : Nat) : Int)) = ((n.val : Nat) : Int) := by decide
theorem val_fig (n : Int) (h : 0 ≤ n ∧ n < 16) : valL (figL n) = n := by
  have := valF2 ⟨n.toNat, by omega⟩
  simpa [show ((n.toNat : Nat) : Int) = n by omega] using this
theorem unhex_hex (L : List Int) : ∀ acc : List Int, (∀ x ∈ L, 0 ≤ x ∧ x < 256) → unhexT acc (hexL L) = (strOfNums (acc ++ L), true) := by
  induction L with
  | nil => intro acc _; simp [hexL, unhexT]
  | cons b L ih =>
    intro acc h
    have hb := h b (List.mem_cons_self ..)
    rw [hexL, unhexT, val_fig _ (by omega), val_fig _ (by omega), if_neg (by omega), if_neg (by omega), ih _ (fun x hx => h x (List.mem_cons_of_mem _ hx)), show b / 16 * 16 + b % 16 = b by omega, List.append_assoc]
    rfl
theorem hexL_range (L : List Int) (h : ∀ x ∈ L, 0 ≤ x ∧ x < 256) : ∀ x ∈ hexL L, 0 ≤ x ∧ x < 256 := by
  induction L with
  | nil => simp [hexL]
  | cons b L ih =>
    have hb := h b (List.mem_cons_self ..)
    intro x hx
    rw [hexL] at hx
    rcases List.mem_cons.1 hx with rfl | hx
    · unfold figL; split <;> omega
    · rcases List.mem_cons.1 hx with rfl | hx
      · unfold figL; split <;> omega
      · exact ih (fun y hy => h y (List.mem_cons_of_mem _ hy)) x hx
theorem hexL_len (L : List Int) : (hexL L).length = 2 * L.length := by
  induction L with
  | nil => rfl
  | cons b L ih => simp [hexL, ih]; omega
/-! ### digits read back -/
def foldD (L : List Int) (x : Int) : Int := L.foldl (fun x b => 10 * x + b - 48) x
theorem digsU_ok (j : Nat) : ∀ u : Nat, u < 10 ^ j → (digsU u).length ≤ j ∧ (∀ b ∈ digsU u, 48 ≤ b ∧ b ≤ 57) ∧ foldD (digsU u) 0 = u := by
  induction j with
  | zero => intro u h; have : u = 0 := by simp at h; omega
            subst this; simp [digsU, foldD]
  | succ j ih =>
    intro u h
    by_cases h0 : u = 0
    · subst h0; simp [digsU, foldD]
    · have hp : (10 : Nat) ^ (j + 1) = 10 ^ j * 10 := Nat.pow_succ ..
      obtain ⟨h1, h2, h3⟩ := ih (u / 10) (by omega)
      rw [digsU_step u h0]
      refine ⟨by simp; omega, fun b hb => ?_, ?_⟩
      · rcases List.mem_append.1 hb with h4 | h4
        · exact h2 b h4
        · rw [List.mem_singleton.1 h4]; omega
      · unfold foldD at h3 ⊢
        rw [List.foldl_append, h3]
        simp only [List.foldl_cons, List.foldl_nil]
        omega

theorem bt_bd1 (s : ByteArray) (i : Int) : 0 ≤ bt s i ∧ bt s i < 256 := by
  rw [bt_getD, List.getD_eq_getElem?_getD]
  rcases h : (bytesOf s)[i.toNat]? with _ | x
  · simp
  · exact bytesOf_range (List.mem_of_getElem? h)
def rdD (s : ByteArray) : Nat → Nat → Int → Int × Bool
  | 0, _, x => if x > 1000000000 then (0, false) else if (decT x).toList = s.toList then (x, true) else (0, false)
  | d + 1, i, x => if bt s i < 48 then (0, false) else if bt s i > 57 then (0, false) else rdD s d (i + 1) (10 * x + bt s i - 48)
theorem implRd_l0 (s : ByteArray) (hs : s.size ≤ 10) (d : Nat) : ∀ (i : Nat) (x : Int), s.size - i = d → i ≤ s.size → 0 ≤ x → x < ((10 ^ i : Nat) : Int) → Gets (fun k => impl_ReadDecimal.l0 k s x (i : Int)) (· = rdD s d i x) := by
  induction d with
  | zero =>
    intro i x hd hi h0 h1
    have hp : 10 ^ i ≤ 10 ^ 10 := Nat.pow_le_pow_right (by omega) (by omega)
    refine Gets.step (fun k => impl_ReadDecimal.l0.eq_2 ..) (Gets.neg (by omega) ?_)
    unfold rdD
    refine Gets.ite (fun h => Gets.ret (by rw [if_pos h])) (fun h => ?_)
    rw [if_neg h, implDecimal x (by omega)]
    simp only [Option.bind_some]
    refine Gets.ite (fun h => Gets.ret (by rw [if_pos h])) (fun h => Gets.ret (by rw [if_neg h]))
  | succ d ih =>
    intro i x hd hi h0 h1
    have hp : 10 ^ i ≤ 10 ^ 10 := Nat.pow_le_pow_right (by omega) (by omega)
    have hq : 10 ^ (i + 1) = 10 ^ i * 10 := Nat.pow_succ ..
    have hb := bt_bd1 s i
    refine Gets.step (fun k => impl_ReadDecimal.l0.eq_2 ..) (Gets.pos (by omega) (Gets.pos (by omega) ?_))
    unfold rdD
    refine Gets.ite (fun h => Gets.ret (by rw [if_pos h])) (fun h => ?_)
    rw [if_neg h]
    refine Gets.ite (fun h => Gets.ret (by rw [if_pos h])) (fun h' => ?_)
    rw [if_neg h']
    rw [wrapId (x := x * 10) (by omega) (by omega), wrapId (x := x * 10 + _) (by omega) (by omega), wrapId (x := (i : Int) + 1) (by omega) (by omega), show ((i : Int) + 1) = ((i + 1 : Nat) : Int) by omega, show x * 10 + (bt s i - 48) % 256 = 10 * x + bt s i - 48 by omega]
    exact ih (i + 1) _ (by omega) (by omega) (by omega) (by omega)
def rdT (s : ByteArray) : Int × Bool := if s.size > 10 then (0, false) else rdD s s.size 0 0
theorem implRd (s : ByteArray) : Gets (fun k => impl_ReadDecimal.f k s) (· = rdT s) := by
  unfold impl_ReadDecimal.f
  refine Gets.ite (fun h => ?_) (fun h => ?_)
  · refine Gets.step (fun k => impl_ReadDecimal.j0.eq_2 ..) (Gets.pos rfl (Gets.ret ?_))
    unfold rdT
    rw [if_neg (by omega), show s.size = 0 by omega]
    unfold rdD
    rw [if_neg (by omega), if_neg]
    intro h1
    have h2 := (toList_iff _ _).1 h1
    have h3 := congrArg ByteArray.size h2
    rw [decT_size 0 (by omega)] at h3
    omega
  · refine Gets.step (fun k => impl_ReadDecimal.j0.eq_2 ..) (Gets.ite (fun h1 => Gets.ret ?_) (fun h1 => ?_))
    · have := of_decide_eq_true h1
      unfold rdT; rw [if_pos (by omega)]
    · have h2 : ¬ (s.size : Int) > 10 := fun h2 => h1 (decide_eq_true h2)
      unfold rdT
      rw [if_neg (by omega)]
      exact implRd_l0 s (by omega) s.size 0 0 rfl (by omega) (by omega) (by simp)

theorem rdD_fold (s : ByteArray) (d : Nat) : ∀ (i : Nat) (x : Int), s.size - i = d → i ≤ s.size → (∀ b ∈ (bytesOf s).drop i, 48 ≤ b ∧ b ≤ 57) → rdD s d i x = if foldD ((bytesOf s).drop i) x > 1000000000 then (0, false) else if (decT (foldD ((bytesOf s).drop i) x)).toList = s.toList then (foldD ((bytesOf s).drop i) x, true) else (0, false) := by
  have hz := size_eq s
  induction d with
  | zero =>
    intro i x hd hi _
    rw [List.drop_of_length_le (by omega)]
    rfl
  | succ d ih =>
    intro i x hd hi hb
    have hdr : (bytesOf s).drop i = bt s i :: (bytesOf s).drop (i + 1) := by rw [drop_atL _ i (by omega), bt_getD]; simp
    have h1 := hb (bt s i) (by rw [hdr]; exact List.mem_cons_self ..)
    unfold rdD
    rw [if_neg (by omega), if_neg (by omega), ih (i + 1) _ (by omega) (by omega) (fun b h => hb b (by rw [hdr]; exact List.mem_cons_of_mem _ h)), hdr]
    rfl
theorem decT_digs (n : Nat) (hn : n ≤ 1000000000) : (decT (n : Int)).size ≤ 10 ∧ (∀ b ∈ bytesOf (decT (n : Int)), 48 ≤ b ∧ b ≤ 57) ∧ foldD (bytesOf (decT (n : Int))) 0 = n := by
  by_cases h0 : n = 0
  · subst h0
    rw [show ((0 : Nat) : Int) = 0 from rfl, decT_zero]
    have e : bytesOf (⟨#[48]⟩ : ByteArray) = [48] := rfl
    rw [size_eq, e]; simp [foldD]
  · obtain ⟨h1, h2, h3⟩ := digsU_ok 10 n (by omega)
    have e : bytesOf (decT (n : Int)) = digsU n := by
      rw [decT_bytes _ (by omega), if_neg (by omega), List.nil_append]; congr 1
    rw [size_eq, e]
    exact ⟨h1, h2, h3⟩
theorem rdT_back (n : Nat) (hn : n ≤ 1000000000) : rdT (decT (n : Int)) = ((n : Int), true) := by
  obtain ⟨h1, h2, h3⟩ := decT_digs n hn
  unfold rdT
  rw [if_neg (by omega), rdD_fold _ (decT (n : Int)).size 0 0 (by omega) (by omega) (by simpa using h2), List.drop_zero, h3, if_neg (by omega), if_pos rfl]

theorem rdD_bd (s : ByteArray) (d : Nat) : ∀ (i : Nat) (x : Int), 0 ≤ x → (rdD s d i x).2 = true → 0 ≤ (rdD s d i x).1 ∧ (rdD s d i x).1 ≤ 1000000000 := by
  induction d with
  | zero =>
    intro i x h0 h
    unfold rdD at h ⊢
    split at h
    · simp at h
    · rename_i h1
      rw [if_neg h1]
      split at h
      · rename_i h2
        rw [if_pos h2]; exact ⟨h0, by simp only; omega⟩
      · simp at h
  | succ d ih =>
    intro i x h0 h
    unfold rdD at h ⊢
    split at h
    · simp at h
    · rename_i h1
      rw [if_neg h1]
      split at h
      · simp at h
      · rename_i h2
        rw [if_neg h2]; exact ih _ _ (by omega) h
theorem rdT_bd (s : ByteArray) (h : (rdT s).2 = true) : 0 ≤ (rdT s).1 ∧ (rdT s).1 ≤ 1000000000 := by
  unfold rdT at h ⊢
  split at h
  · simp at h
  · rename_i h1
    rw [if_neg h1]; exact rdD_bd s _ _ _ (by omega) h
theorem decT_one (d : Int) (h : 1 ≤ d ∧ d ≤ 9) : bytesOf (decT d) = [48 + d] := by
  rw [decT_bytes d (by omega), if_neg (by omega), List.nil_append, digsU_step _ (by omega), show d.natAbs / 10 = 0 by omega]
  simp [digsU]
  omega
theorem privT_bytes (d : Int) (n : ByteArray) (h : 1 ≤ d ∧ d ≤ 9) : bytesOf (privT d n) = 35 :: (48 + d) :: 35 :: bytesOf n := by
  unfold privT
  rw [bytesOf_app, bytesOf_app, bytesOf_app, decT_one d h]; rfl
open Classical in
noncomputable def spT (s : ByteArray) : Int × ByteArray × Bool := if 4 ≤ s.size ∧ bt s 0 = 35 ∧ bt s 2 = 35 ∧ (49 ≤ bt s 1 ∧ bt s 1 ≤ 57) ∧ nameP (s.extract 3 s.size) then (bt s 1 - 48, s.extract 3 s.size, true) else (0, (⟨#[]⟩ : ByteArray), false)
theorem spT_yes (d : Int) (n : ByteArray) (h : 1 ≤ d ∧ d ≤ 9) (hn : nameP n) : spT (privT d n) = (d, n, true) := by
  have hb := privT_bytes d n h
  have hz : (privT d n).size = 3 + n.size := by rw [size_eq, hb, size_eq n]; simp; omega
  have h1 := hn.2.1
  have e3 : (privT d n).extract 3 (privT d n).size = n := by
    refine bytesOf_inj ?_
    rw [bytesOf_extract, hb, hz]
    exact List.take_of_length_le (by rw [size_eq n]; simp)
  have b0 : bt (privT d n) 0 = 35 := by rw [bt_getD, hb]; rfl
  have b1 : bt (privT d n) 1 = 48 + d := by rw [bt_getD, hb]; rfl
  have b2 : bt (privT d n) 2 = 35 := by rw [bt_getD, hb]; rfl
  unfold spT
  rw [if_pos ⟨by omega, b0, b2, by omega, by rw [e3]; exact hn⟩, e3, b1]
  congr 1; omega
theorem spT_is (s : ByteArray) (h : 4 ≤ s.size ∧ bt s 0 = 35 ∧ bt s 2 = 35 ∧ (49 ≤ bt s 1 ∧ bt s 1 ≤ 57) ∧ nameP (s.extract 3 s.size)) : s = privT (bt s 1 - 48) (s.extract 3 s.size) := by
  obtain ⟨h0, h1, h2, h3, _⟩ := h
  refine bytesOf_inj ?_
  rw [privT_bytes _ _ (by omega), bytesOf_extract]
  have hz := size_eq s
  rw [bt_getD] at h1 h2 ⊢
  rw [List.take_of_length_le (by rw [List.length_drop]; omega)]
  generalize bytesOf s = L at *
  match L, hz with
  | [], hz => rw [List.length_nil] at hz; omega
  | [_], hz => simp only [List.length_cons, List.length_nil] at hz; omega
  | [_, _], hz => simp only [List.length_cons, List.length_nil] at hz; omega
  | a :: b :: c :: L, hz =>
    simp at h1 h2 ⊢
    exact ⟨h1, by omega, h2⟩
theorem name_no35 (n : ByteArray) (h : nameP n) : ∀ b ∈ bytesOf n, b ≠ 35 := by
  intro b hb
  obtain ⟨j, hj, rfl⟩ := List.mem_iff_getElem.1 hb
  have hz := size_eq n
  have := h.1 (j : Int) (by omega) (by omega)
  unfold okAt at this
  have e : bt n (j : Int) = (bytesOf n)[j] := by rw [bt_getD, Int.toNat_natCast, List.getD_eq_getElem?_getD, List.getElem?_eq_getElem hj]; rfl
  rw [e] at this
  omega
theorem implSP (s : ByteArray) (hs : s.size ≤ 1048576) : Gets (fun k => impl_SplitPrivate.f k s) (· = spT s) := by
  unfold impl_SplitPrivate.f strings_Split.f
  rw [if_pos ⟨by omega, by decide⟩]
  simp only [Option.bind_some]
  have hW := splitB_W s.size s (Nat.le_refl _)
  change (Lib.splitB (⟨#[35]⟩ : ByteArray) 0 (Lib.countB s (⟨#[35]⟩ : ByteArray)) s).map bytesOf = _ at hW
  generalize Lib.splitB (⟨#[35]⟩ : ByteArray) 0 (Lib.countB s (⟨#[35]⟩ : ByteArray)) s = L at hW ⊢
  by_cases hC : 4 ≤ s.size ∧ bt s 0 = 35 ∧ bt s 2 = 35 ∧ (49 ≤ bt s 1 ∧ bt s 1 ≤ 57) ∧ nameP (s.extract 3 s.size)
  · have hs2 := spT_is s hC
    have hn := hC.2.2.2.2
    have hd : 1 ≤ bt s 1 - 48 ∧ bt s 1 - 48 ≤ 9 := by omega
    generalize hdd : bt s 1 - 48 = d at hs2 hd
    generalize hnn : s.extract 3 s.size = n at hs2 hn
    have hL : L = [(⟨#[]⟩ : ByteArray), decT d, n] := by
      refine map_inj _ _ ?_
      rw [hW, hs2, privT_bytes d n hd]
      rw [splitW, if_pos rfl, splitW, if_neg (by omega), splitW, if_pos rfl, splitW_no _ _ (name_no35 n hn)]
      simp [decT_one d hd, bytesOf_empty]
    rw [hL]
    have hsT : spT s = (d, n, true) := by rw [hs2]; exact spT_yes d n hd hn
    rw [hsT]
    have r1 : rdOf ByteArray.empty [(⟨#[]⟩ : ByteArray), decT d, n] 1 = decT d := rfl
    have r2 : rdOf ByteArray.empty [(⟨#[]⟩ : ByteArray), decT d, n] 2 = n := rfl
    rw [r1, r2]
    have hrd := rdT_back d.toNat (by omega)
    rw [show ((d.toNat : Nat) : Int) = d by omega] at hrd
    have hns : n.size ≤ 12 := hn.2.2
    refine Gets.pos rfl (Gets.pos (show (1 : Int) < ((3 : Nat) : Int) by decide) (Gets.bindE (implRd (decT d)).ev ?_))
    rw [hrd]
    have hp := implPriv d n (by omega) (by omega)
    rw [if_pos (show (1 ≤ d ∧ d ≤ 9) ∧ nameP n from ⟨hd, hn⟩)] at hp
    refine Gets.pos rfl (Gets.pos (show (2 : Int) < ((3 : Nat) : Int) by decide) (Gets.bindE hp.ev ?_))
    exact Gets.pos (by rw [hs2]) (Gets.ret rfl)
  · have hno : spT s = (0, (⟨#[]⟩ : ByteArray), false) := by unfold spT; rw [if_neg hC]
    rw [hno]
    refine Gets.ite (fun h3 => Gets.pos (by omega) ?_) (fun _ => Gets.ret rfl)
    refine Gets.bindE (implRd _).ev (Gets.ite (fun hok => Gets.pos (by omega) ?_) (fun _ => Gets.ret rfl))
    have hbd := rdT_bd _ hok
    have h2l : 2 < L.length := by omega
    have hp2 : (rdOf ByteArray.empty L 2).size ≤ 1048576 := by
      have e : rdOf ByteArray.empty L 2 = L[2] := rdS_get (by simpa using h2l)
      have hm : bytesOf L[2] ∈ splitW [] (bytesOf s) := by rw [← hW]; exact List.mem_map_of_mem (List.getElem_mem h2l)
      have := splitW_len _ _ _ hm
      have hz := size_eq s
      rw [e, size_eq]; simp only [List.length_nil, Nat.zero_add] at this; omega
    refine Gets.bindE (implPriv _ _ (by omega) hp2).ev (Gets.ite (fun h => ?_) (fun _ => Gets.ret rfl))
    exfalso
    have h := (toList_iff _ _).1 h
    split at h
    · rename_i hq
      have hy := spT_yes _ _ hq.1 hq.2
      rw [h, hno] at hy
      simp at hy
    · rw [← h] at hW
      have := congrArg List.length hW
      rw [bytesOf_empty, splitW, List.length_map] at this
      simp at this
      omega

theorem specName_l0 (s : ByteArray) (hs : s.size ≤ 140737488351232) (h1 : 1 ≤ s.size) (h2 : s.size ≤ 12) (hl : 97 ≤ bt s 0 ∧ bt s 0 ≤ 122) (d : Nat) : ∀ i : Int, 0 ≤ i → (s.size : Int) - i = d →
    Gets (fun k => spec_NameOk.l0 k s i) (fun b => b = true ↔ (∀ j : Int, i ≤ j → j < s.size → okAt s j)) := by
  induction d with
  | zero =>
    intro i h0 hd
    refine Gets.step (fun k => spec_NameOk.l0.eq_2 ..) ?_
    refine Gets.neg (by omega) (Gets.ret ?_)
    simp only [true_iff]
    exact fun j h1 h2 => by omega
  | succ d ih =>
    intro i h0 hd
    refine Gets.step (fun k => spec_NameOk.l0.eq_2 ..) ?_
    refine Gets.pos (by omega) (Gets.pos h0 ?_)
    have hi := ih (i + 1) (by omega) (by omega)
    rw [wrapId (by omega) (by omega)]
    have yes : okAt s i → Gets (fun k => spec_NameOk.l0 k s (i + 1)) (fun b => b = true ↔ (∀ j : Int, i ≤ j → j < s.size → okAt s j)) := fun ho => hi.mono (fun b hb => by
      rw [hb]
      refine ⟨fun h => fun j h1 h2 => ?_, fun h => fun j h1 h2 => h j (by omega) h2⟩
      by_cases e : j = i
      · subst e; exact ho
      · exact h j (by omega) h2)
    have no : ¬ okAt s i → Gets (fun _ => some false) (fun b => b = true ↔ (∀ j : Int, i ≤ j → j < s.size → okAt s j)) := fun ho => Gets.ret (by
      simp only [Bool.false_eq_true, false_iff]
      exact fun h => ho (h i (by omega) (by omega)))
    have z : i = 0 → 97 ≤ bt s i ∧ bt s i ≤ 122 := fun e => by subst e; exact hl
    unfold okAt at yes no
    repeat' (first | refine Gets.ite (fun h => ?_) (fun h => ?_) | exact yes (by omega) | exact no (by omega))
theorem specName_j0 (s : ByteArray) (hs : s.size ≤ 140737488351232) (c : Bool) (hc : c = false → 1 ≤ s.size ∧ s.size ≤ 12 ∧ 97 ≤ bt s 0 ∧ bt s 0 ≤ 122) (hc2 : c = true → ¬ nameP s) : Gets (fun k => spec_NameOk.j0 k s c) (fun b => b = true ↔ nameP s) := by
  refine Gets.step (fun k => spec_NameOk.j0.eq_2 ..) ?_
  refine Gets.ite (fun h => Gets.ret ?_) (fun h => ?_)
  · simp only [Bool.false_eq_true, false_iff]; exact hc2 h
  · obtain ⟨h1, h2, h3⟩ := hc (by simpa using h)
    refine (specName_l0 s hs h1 h2 h3 s.size 0 (by omega) (by omega)).mono (fun b hb => ?_)
    rw [hb]
    exact ⟨fun h => ⟨h, h1, h2⟩, fun h => h.1⟩
theorem specName (s : ByteArray) (hs : s.size ≤ 140737488351232) : Gets (fun k => spec_NameOk.f k s) (fun b => b = true ↔ nameP s) := by
  unfold spec_NameOk.f spec_l01In.f
  have hz : nameP s → 97 ≤ bt s 0 ∧ bt s 0 ≤ 122 := fun h => by
    rcases h.1 0 (by omega) (by have := h.2.1; omega) with h | h
    · exact h
    · exact absurd rfl h.1
  have hq : nameP s → 1 ≤ s.size ∧ s.size ≤ 12 := fun h => h.2
  refine Gets.bind (P := fun b => b = true ↔ 1 ≤ s.size ∧ s.size ≤ 12) ?_ (fun a ha => ?_)
  · refine Gets.ite (fun h => Gets.ret ?_) (fun h => Gets.ret ?_)
    · simp; omega
    · simp; omega
  · refine Gets.ite (fun h => ?_) (fun h => ?_)
    · have hab := ha.1 h
      refine Gets.pos (by omega) ?_
      refine Gets.ite (fun h2 => ?_) (fun h2 => ?_)
      · exact specName_j0 s hs true (by simp) (fun _ hn => by have := hz hn; omega)
      · refine specName_j0 s hs _ (fun h3 => ?_) (fun h3 hn => ?_)
        · have h3 := of_decide_eq_false h3
          omega
        · have h3 := of_decide_eq_true h3
          have := hz hn; omega
    · exact specName_j0 s hs true (by simp) (fun _ hn => h (ha.2 (hq hn)))

theorem inS (x a b : Int) : spec_l01In.f x a b = some (decide (a ≤ x ∧ x ≤ b)) := by
  unfold spec_l01In.f
  by_cases h : x ≥ a
  · rw [if_pos h]; simp [show a ≤ x from h]
  · rw [if_neg h]; simp [show ¬ a ≤ x from h]

/-! ### the reader of draws: it always answers -/
theorem and_i64 (x : Int) (m : Nat) (hm : m < 9223372036854775808) : 0 ≤ Go.bits .and .i64 x (m : Int) ∧ Go.bits .and .i64 x (m : Int) ≤ (m : Int) := by
  have h1 : (BitVec.ofInt IntKind.i64.bits x &&& BitVec.ofInt IntKind.i64.bits (m : Int)).toNat ≤ m := by
    rw [BitVec.toNat_and]
    refine Nat.le_trans Nat.and_le_right ?_
    rw [BitVec.ofInt_natCast, BitVec.toNat_ofNat]
    exact Nat.mod_le _ _
  unfold Go.bits
  simp only [IntKind.wrap_i64]
  omega
theorem and255 (x : Int) : 0 ≤ Go.bits .and .i64 x 255 ∧ Go.bits .and .i64 x 255 < 256 := by
  have h := and_i64 x 255 (by decide)
  rw [show ((255 : Nat) : Int) = 255 from rfl] at h
  omega
theorem wrap_bd (x : Int) : -9223372036854775808 ≤ wrap64 x ∧ wrap64 x ≤ 9223372036854775807 := by unfold wrap64; omega
theorem dByte (l : List Int) (p z : Int) (hl : l.length ≤ 1048576) (hp : 0 ≤ p ∧ p ≤ l.length) : ∃ v p' z', spec_l01Byte.f l p z = some (v, p', z') ∧ (0 ≤ v ∧ v < 256) ∧ 0 ≤ p' ∧ p' ≤ l.length := by
  unfold spec_l01Byte.f
  by_cases h : p < (l.length : Int)
  · rw [if_pos h, if_pos hp.1]
    refine ⟨_, _, _, rfl, and255 _, ?_⟩
    rw [wrapId (by omega) (by omega)]; omega
  · rw [if_neg h]
    exact ⟨_, _, _, rfl, and255 _, hp⟩
theorem dBelow (l : List Int) (p z n : Int) (hl : l.length ≤ 1048576) (hp : 0 ≤ p ∧ p ≤ l.length) (hn : 0 < n) : ∃ v p' z', spec_l01Below.f l p z n = some (v, p', z') ∧ (0 ≤ v ∧ v < n) ∧ 0 ≤ p' ∧ p' ≤ l.length := by
  unfold spec_l01Below.f
  rw [if_neg (by omega)]
  by_cases h : n ≤ 256
  · rw [if_pos h]
    obtain ⟨v, p1, z1, e1, hv, hp1⟩ := dByte l p z hl hp
    rw [e1]
    simp only [Option.bind_some]
    rw [if_neg (by omega)]
    refine ⟨_, _, _, rfl, ?_, hp1⟩
    rw [tmod_nn hv.1]
    exact ⟨Int.emod_nonneg _ (by omega), Int.emod_lt_of_pos _ hn⟩
  · rw [if_neg h]
    obtain ⟨v1, p1, z1, e1, hv1, hp1⟩ := dByte l p z hl hp
    rw [e1]
    simp only [Option.bind_some]
    obtain ⟨v2, p2, z2, e2, hv2, hp2⟩ := dByte l p1 z1 hl hp1
    rw [e2]
    simp only [Option.bind_some]
    obtain ⟨v3, p3, z3, e3, hv3, hp3⟩ := dByte l p2 z2 hl hp2
    rw [e3]
    simp only [Option.bind_some]
    obtain ⟨v4, p4, z4, e4, hv4, hp4⟩ := dByte l p3 z3 hl hp3
    rw [e4]
    simp only [Option.bind_some]
    rw [if_neg (by omega)]
    refine ⟨_, _, _, rfl, ?_, hp4⟩
    rw [wrapId (x := v1 * 16777216) (by omega) (by omega), wrapId (x := v2 * 65536) (by omega) (by omega), wrapId (x := v1 * 16777216 + v2 * 65536) (by omega) (by omega), wrapId (x := v3 * 256) (by omega) (by omega), wrapId (x := v1 * 16777216 + v2 * 65536 + v3 * 256) (by omega) (by omega), wrapId (by omega) (by omega), tmod_nn (by omega)]
    exact ⟨Int.emod_nonneg _ (by omega), Int.emod_lt_of_pos _ hn⟩
theorem dNew_l0 (l : List Int) (hl : l.length ≤ 1048576) (d : Nat) : ∀ (i : Nat) (h : Int), l.length - i = d → i ≤ l.length → Gets (fun k => spec_l01New.l0 k l h (i : Int)) (fun r => r.1 = l ∧ r.2.1 = 0) := by
  induction d with
  | zero =>
    intro i h hd hi
    exact Gets.step (fun k => spec_l01New.l0.eq_2 ..) (Gets.neg (by omega) (Gets.ret ⟨rfl, rfl⟩))
  | succ d ih =>
    intro i h hd hi
    refine Gets.step (fun k => spec_l01New.l0.eq_2 ..) (Gets.pos (by omega) (Gets.ite (fun _ => Gets.pos (by omega) ?_) (fun _ => Gets.ret ⟨rfl, rfl⟩)))
    rw [wrapId (x := (i : Int) + 1) (by omega) (by omega), show ((i : Int) + 1) = ((i + 1 : Nat) : Int) by omega]
    exact ih (i + 1) _ (by omega) (by omega)
theorem dNew (l : List Int) (hl : l.length ≤ 1048576) : Gets (fun k => spec_l01New.f k l) (fun r => r.1 = l ∧ r.2.1 = 0) := by
  unfold spec_l01New.f
  exact dNew_l0 l hl _ 0 _ rfl (by omega)

theorem dOnce (l : List Int) (p z n : Int) (hl : l.length ≤ 1048576) (hp : 0 ≤ p ∧ p ≤ l.length) (hn : 0 < n) : ∃ v p' z', spec_l01Once.f l p z n = some (v, p', z') ∧ 0 ≤ p' ∧ p' ≤ l.length := by
  unfold spec_l01Once.f
  obtain ⟨v, p', z', e, _, hp'⟩ := dBelow l p z n hl hp hn
  rw [e]
  exact ⟨_, _, _, rfl, hp'⟩

theorem dPickInt (l : List Int) (p z : Int) (m : List Int) (hl : l.length ≤ 1048576) (hp : 0 ≤ p ∧ p ≤ l.length) (hm : 0 < m.length) : ∃ v p' z', spec_l01PickInt.f l p z m = some (v, p', z') ∧ v ∈ m ∧ 0 ≤ p' ∧ p' ≤ l.length := by
  unfold spec_l01PickInt.f
  obtain ⟨v, p', z', e, hv, hp'⟩ := dBelow l p z (m.length : Int) hl hp (by omega)
  rw [e]
  simp only [Option.bind_some]
  rw [if_pos hv.1, if_pos hv.2]
  refine ⟨_, _, _, rfl, ?_, hp'⟩
  rw [rd_get (by omega)]
  exact List.getElem_mem _

theorem dLong_l0 (n : Nat) (c : Int) (d : Nat) : ∀ (i : Nat) (acc : List Int), n - i = d → i ≤ n → acc.length = n → n ≤ 1000000 → Gets (fun k => spec_l01Long.l0 k (n : Int) c acc (i : Int)) (fun r => r.size = n) := by
  induction d with
  | zero =>
    intro i acc hd hi ha hn
    exact Gets.step (fun k => spec_l01Long.l0.eq_2 ..) (Gets.neg (by omega) (Gets.ret (by rw [strOfNums_size]; exact ha)))
  | succ d ih =>
    intro i acc hd hi ha hn
    refine Gets.step (fun k => spec_l01Long.l0.eq_2 ..) (Gets.pos (by omega) (Gets.pos (by omega) (Gets.pos (by omega) ?_)))
    rw [wrapId (x := (i : Int) + 1) (by omega) (by omega), show ((i : Int) + 1) = ((i + 1 : Nat) : Int) by omega]
    exact ih (i + 1) _ (by omega) (by omega) (by simpa using ha) hn
theorem dLong (n : Nat) (c : Int) (hn : n ≤ 1000000) : Gets (fun k => spec_l01Long.f k (n : Int) c) (fun r => r.size = n) := by
  unfold spec_l01Long.f
  refine Gets.pos (by omega) (Gets.pos (by omega) ?_)
  exact dLong_l0 n c _ 0 _ rfl (by omega) (by simp) hn

theorem dPlaceB (l : List Int) (p z : Int) (hl : l.length ≤ 1048576) (hp : 0 ≤ p ∧ p ≤ l.length) : ∃ v p' z', spec_l01Place.f l p z 10 = some (v, p', z') ∧ (-9223372036854775808 ≤ v ∧ v ≤ 9223372036854775807) ∧ 0 ≤ p' ∧ p' ≤ l.length := by
  unfold spec_l01Place.f
  obtain ⟨v, p1, z1, e1, hp1⟩ := dOnce l p z 15 hl hp (by omega)
  rw [e1]
  simp only [Option.bind_some]
  split
  · obtain ⟨v2, p2, z2, e2, hm, hp2⟩ := dPickInt l p1 z1 [-1, 10, wrap64 (10 + 1), 9223372036854775807, -9223372036854775808] hl hp1 (by simp)
    rw [e2]
    refine ⟨_, _, _, rfl, ?_, hp2⟩
    rw [wrapId (by omega) (by omega)] at hm
    simp only [List.mem_cons, List.not_mem_nil, or_false] at hm
    omega
  · obtain ⟨v2, p2, z2, e2, hv, hp2⟩ := dBelow l p1 z1 10 hl hp1 (by omega)
    rw [e2]
    exact ⟨_, _, _, rfl, by omega, hp2⟩
theorem dPick (l : List Int) (p z : Int) (m : List ByteArray) (hl : l.length ≤ 1048576) (hp : 0 ≤ p ∧ p ≤ l.length) (hm : 0 < m.length) (hs : ∀ t ∈ m, t.size ≤ 100) : ∃ v p' z', spec_l01Pick.f l p z m = some (v, p', z') ∧ v.size ≤ 100 := by
  unfold spec_l01Pick.f
  obtain ⟨v, p', z', e, hv, hp'⟩ := dBelow l p z (m.length : Int) hl hp (by omega)
  rw [e]
  simp only [Option.bind_some]
  rw [if_pos hv.1, if_pos hv.2]
  refine ⟨_, _, _, rfl, ?_⟩
  have e2 : rdOf ByteArray.empty m v = m[v.toNat]'(by omega) := rdS_get (by omega)
  rw [e2]
  exact hs _ (List.getElem_mem _)
theorem dAny (l : List Int) (p z : Int) (hl : l.length ≤ 1048576) (hp : 0 ≤ p ∧ p ≤ l.length) : Gets (fun k => spec_l03Any.f k l p z) (fun r => r.1.size ≤ 100) := by
  unfold spec_l03Any.f
  obtain ⟨b, p1, z1, e1, hp1⟩ := dOnce l p z 8 hl hp (by omega)
  simp only [e1, Option.bind_some]
  refine Gets.ite (fun _ => ?_) (fun _ => ?_)
  · refine Gets.bind (dLong 12 97 (by omega)) (fun t ht => Gets.bind (dLong 13 97 (by omega)) (fun u hu => ?_))
    obtain ⟨v, p2, z2, e2, hv⟩ := dPick l p1 z1 [(⟨#[]⟩ : ByteArray), (⟨#[52, 100]⟩ : ByteArray), (⟨#[65]⟩ : ByteArray), (⟨#[97, 32, 98]⟩ : ByteArray), (⟨#[35, 49, 35, 120]⟩ : ByteArray), t, u] hl hp1 (by simp) (by
      intro x hx
      simp only [List.mem_cons, List.not_mem_nil, or_false] at hx
      rcases hx with rfl | rfl | rfl | rfl | rfl | rfl | rfl
      · decide
      · decide
      · decide
      · decide
      · decide
      · omega
      · omega)
    simp only [e2, Option.bind_some]
    exact Gets.ret hv
  · unfold spec_l03Name.f
    obtain ⟨v, p2, z2, e2, hv⟩ := dPick l p1 z1 [(⟨#[97, 110, 110]⟩ : ByteArray), (⟨#[98, 111, 98]⟩ : ByteArray), (⟨#[99, 121]⟩ : ByteArray), (⟨#[100, 52]⟩ : ByteArray), (⟨#[101, 118, 101]⟩ : ByteArray)] hl hp1 (by simp) (by
      intro x hx
      simp only [List.mem_cons, List.not_mem_nil, or_false] at hx
      rcases hx with rfl | rfl | rfl | rfl | rfl <;> decide)
    simp only [e2, Option.bind_some]
    exact Gets.ret hv
theorem dPriv (l : List Int) (hl : l.length ≤ 1048576) : Gets (fun k => spec_DrawPrivateName.f k l) (fun r => (-9223372036854775808 ≤ r.1 ∧ r.1 ≤ 9223372036854775807) ∧ r.2.size ≤ 100) := by
  unfold spec_DrawPrivateName.f
  refine Gets.bind (dNew l hl) (fun c hc => ?_)
  obtain ⟨c1, c2, c3⟩ := c
  obtain ⟨h1, h2⟩ := hc
  simp only at h1 h2
  subst h1 h2
  obtain ⟨v, p, z, e, hv, hp⟩ := dPlaceB c1 0 c3 hl (by omega)
  simp only [e, Option.bind_some]
  exact Gets.bind (dAny c1 p z hl hp) (fun t ht => Gets.ret ⟨hv, ht⟩)
theorem spT_name (s : ByteArray) (h : nameP s) : (spT s).2.2 = false := by
  unfold spT
  rw [if_neg]
  intro hc
  have := h.1 0 (by omega) (by omega)
  unfold okAt at this
  omega
theorem spT_empty : spT (⟨#[]⟩ : ByteArray) = (0, (⟨#[]⟩ : ByteArray), false) := by
  unfold spT
  rw [if_neg]
  intro hc
  have h1 := hc.1
  have h2 : (⟨#[]⟩ : ByteArray).size = 0 := rfl
  omega
theorem nil_toList : (⟨#[]⟩ : ByteArray).toList = ([] : List UInt8) := by rw [Lib.toList_data]
theorem FnPrivates : Stat.FnPrivates := by
  intro l _
  refine Gets.rounds ?_
  unfold laws_FnPrivates.f laws_big.f
  simp only [Option.bind_some]
  refine Gets.ite (fun _ => Gets.ret rfl) (fun h => ?_)
  have hl : l.length ≤ 1048576 := by
    rcases Nat.lt_or_ge 1048576 l.length with h1 | h1
    · exact absurd (decide_eq_true (by omega)) h
    · exact h1
  refine Gets.bind (dPriv l hl) (fun c hc => ?_)
  obtain ⟨d, s⟩ := c
  obtain ⟨hd, hs⟩ := hc
  simp only at hd hs
  have hi := implName s (by omega)
  have hn := specName s (by omega)
  have hp := implPriv d s hd (by omega)
  by_cases hC : (1 ≤ d ∧ d ≤ 9) ∧ nameP s
  · rw [if_pos hC] at hp
    have hz : (privT d s).size ≤ 1048576 := by rw [size_eq, privT_bytes d s hC.1]; simp only [List.length_cons]; rw [← size_eq]; omega
    refine Gets.bindE hp.ev (Gets.bindE (implSP _ hz).ev ?_)
    rw [spT_yes d s hC.1 hC.2]
    refine Gets.bind hi (fun t ht => ?_)
    have h1 := hC.1.1
    have h2 := hC.1.2
    refine Gets.pos (ht.2 hC.2) (Gets.pos h1 (Gets.neg (by simp [h2]) (Gets.bind hi (fun a ha => Gets.bind hn (fun b hb => ?_)))))
    have e : a = b := boolEq ha hb Iff.rfl
    subst e
    refine Gets.neg (by simp) (Gets.pos rfl (Gets.bindE (implSP s (by omega)).ev (Gets.pos rfl (Gets.pos rfl (Gets.ret ?_)))))
    rw [spT_name s hC.2]; rfl
  · rw [if_neg hC] at hp
    refine Gets.bindE hp.ev (Gets.bindE (implSP _ (by decide)).ev ?_)
    rw [spT_empty]
    have tail : Gets (fun k => (impl_NameOk.f k s).bind fun t206 => ((spec_NameOk.f k s).bind fun t207 => (if (t206 != t207) = true then (some false) else (if ((0, (⟨#[]⟩ : ByteArray), false) : Int × ByteArray × Bool).2.2 = true then ((impl_SplitPrivate.f k s).bind fun bt208 => (if ((0, (⟨#[]⟩ : ByteArray), false) : Int × ByteArray × Bool).1 = d then (if ((0, (⟨#[]⟩ : ByteArray), false) : Int × ByteArray × Bool).2.1.toList = s.toList then (some (!bt208.2.2)) else (some false)) else (some false))) else (some ((⟨#[]⟩ : ByteArray).toList == ([] : List UInt8))))))) (· = true) := by
      refine Gets.bind hi (fun a ha => Gets.bind hn (fun b hb => ?_))
      have e : a = b := boolEq ha hb Iff.rfl
      subst e
      refine Gets.neg (by simp) (Gets.neg (by simp) (Gets.ret ?_))
      rw [nil_toList]; rfl
    refine Gets.bind hi (fun t ht => Gets.ite (fun h1 => Gets.ite (fun h2 => Gets.neg ?_ tail) (fun h2 => Gets.neg (by simp) tail)) (fun h1 => Gets.neg (by simp) tail))
    have h3 : ¬ d ≤ 9 := fun h3 => hC ⟨⟨h2, h3⟩, ht.1 h1⟩
    simp [h3]

end Go.Proofs.YtlnmiafahjddhadDoor.Pure
