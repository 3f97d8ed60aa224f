/- The program's Unhex and the reference's answer alike at every text. -/
import Derived.Test.YtojfhgelfmoplaaPFnExactUnhexx5
import Derived.Lib.Strings
set_option linter.unusedVariables false
set_option linter.unusedSimpArgs false
namespace Go.Proofs.Ytojfhgelfmoplaa.Pure
open Go.RowKit Go.Proofs.Ytojfhgelfmoplaa.PFnExactUnhex Go.Proofs.YtojfhgelfmoplaaW.PrintWords Go.Proofs.YtojfhgelfmoplaaW.PrintLast

/-! ### plain words: from some number of rounds on -/
def Gets {α : Type} (f : Nat → Option α) (Q : α → Prop) : Prop := ∃ r, Ev f r ∧ Q r
theorem Gets.ret {α : Type} {Q : α → Prop} {r : α} (h : Q r) : Gets (fun _ => some r) Q := ⟨r, Ev.now r, h⟩
theorem Gets.none {α : Type} {Q : α → Prop} (h : False) : Gets (fun _ => (Option.none : Option α)) Q := h.elim
theorem Gets.step {α : Type} {g f : Nat → Option α} {Q : α → Prop} (h : ∀ k, g (k + 1) = f k) (k : Gets f Q) : Gets g Q := by
  obtain ⟨r, hr, hq⟩ := k
  exact ⟨r, Ev.step h hr, hq⟩
theorem Ev.ite {α : Type} {c : Prop} [Decidable c] {f g : Nat → Option α} {r : α} (h : c → Ev f r) (k : ¬ c → Ev g r) : Ev (fun n => if c then f n else g n) r := by
  by_cases hc : c
  · simp only [hc, if_true]; exact h hc
  · simp only [hc, if_false]; exact k hc
theorem Gets.ite {α : Type} {c : Prop} [Decidable c] {f g : Nat → Option α} {Q : α → Prop} (h : c → Gets f Q) (k : ¬ c → Gets g Q) : Gets (fun n => if c then f n else g n) Q := by
  by_cases hc : c
  · simp only [hc, if_true]; exact h hc
  · simp only [hc, if_false]; exact k hc
theorem Gets.pos {α : Type} {c : Prop} [Decidable c] {f g : Nat → Option α} {Q : α → Prop} (hc : c) (h : Gets f Q) : Gets (fun n => if c then f n else g n) Q := by
  simp only [hc, if_true]; exact h
theorem Gets.neg {α : Type} {c : Prop} [Decidable c] {f g : Nat → Option α} {Q : α → Prop} (hc : ¬ c) (h : Gets g Q) : Gets (fun n => if c then f n else g n) Q := by
  simp only [hc, if_false]; exact h
theorem Gets.bind {α β : Type} {g : Nat → Option α} {f : Nat → α → Option β} {P : α → Prop} {Q : β → Prop} (h : Gets g P) (k : ∀ a, P a → Gets (fun n => f n a) Q) : Gets (fun n => (g n).bind (f n)) Q := by
  obtain ⟨a, ha, hp⟩ := h
  obtain ⟨r, hr, hq⟩ := k a hp
  exact ⟨r, Ev.bind ha hr, hq⟩
theorem Gets.bindE {α β : Type} {g : Nat → Option α} {f : Nat → α → Option β} {a : α} {Q : β → Prop} (h : Ev g a) (k : Gets (fun n => f n a) Q) : Gets (fun n => (g n).bind (f n)) Q := by
  obtain ⟨r, hr, hq⟩ := k
  exact ⟨r, Ev.bind h hr, hq⟩
theorem Gets.mono {α : Type} {f : Nat → Option α} {P Q : α → Prop} (h : Gets f P) (k : ∀ a, P a → Q a) : Gets f Q := by
  obtain ⟨r, hr, hp⟩ := h
  exact ⟨r, hr, k r hp⟩
theorem Gets.rounds {α : Type} {f : Nat → Option α} {r : α} (h : Gets f (· = r)) : ∃ k, f k = some r := by
  obtain ⟨a, ha, rfl⟩ := h
  exact ha.rounds
theorem Gets.ev {α : Type} {f : Nat → Option α} {r : α} (h : Gets f (· = r)) : Ev f r := by
  obtain ⟨a, ha, rfl⟩ := h
  exact ha
theorem Ev.gets {α : Type} {f : Nat → Option α} {r : α} {Q : α → Prop} (h : Ev f r) (hq : Q r) : Gets f Q := ⟨r, h, hq⟩
theorem Gets.same {α : Type} {o : Option α} {Q : α → Prop} {r : α} (h : o = some r) (hq : Q r) : Gets (fun _ => o) Q := by
  subst h; exact Gets.ret hq
theorem wrapId {x : Int} (h0 : -9223372036854775808 ≤ x) (h1 : x ≤ 9223372036854775807) : wrap64 x = x := by
  unfold wrap64; omega
theorem i64_bd {n : Int} (h : (Lit.int .i64 n).wf = true) : -9223372036854775808 ≤ n ∧ n ≤ 9223372036854775807 := by
  have hm : IntKind.i64.min = -9223372036854775808 := rfl
  simp [Lit.wf, hm] at h
  exact h
theorem boolEq {a b : Bool} {P Q : Prop} (ha : a = true ↔ P) (hb : b = true ↔ Q) (h : P ↔ Q) : a = b := by
  rw [Bool.eq_iff_iff, ha, hb, h]
theorem tmod_nn {a b : Int} (h : 0 ≤ a) : Int.tmod a b = a % b := Int.tmod_eq_emod_of_nonneg h
theorem tdiv_nn {a b : Int} (h : 0 ≤ a) : Int.tdiv a b = a / b := Int.tdiv_eq_ediv_of_nonneg h

/-! ### texts as lists of numbers -/
theorem bytesOf_inj {a b : ByteArray} (h : bytesOf a = bytesOf b) : a = b := by
  have hl : a.data.toList = b.data.toList := by
    unfold bytesOf at h
    exact List.map_inj_right (fun x y hxy => UInt8.toNat_inj.1 (by exact_mod_cast hxy)) |>.1 h
  have hd : a.data = b.data := Array.toList_inj.1 hl
  cases a; cases b; cases hd; rfl
theorem toList_iff (a b : ByteArray) : a.toList = b.toList ↔ a = b := by
  rw [Lib.toList_data, Lib.toList_data]
  exact ⟨fun h => bytesOf_inj (by unfold bytesOf; rw [h]), fun h => by rw [h]⟩
theorem bytesOf_range {s : ByteArray} {x : Int} (h : x ∈ bytesOf s) : 0 ≤ x ∧ x < 256 := by
  unfold bytesOf at h
  obtain ⟨b, _, rfl⟩ := List.mem_map.1 h
  have := b.toNat_lt
  omega
theorem bytesOf_str {xs : List Int} (h : ∀ x ∈ xs, 0 ≤ x ∧ x < 256) : bytesOf (strOfNums xs) = xs := by
  unfold bytesOf
  rw [strOfNums_data, List.map_map]
  conv => rhs; rw [← List.map_id xs]
  refine List.map_congr_left (fun x hx => ?_)
  have := h x hx
  simp only [Function.comp, UInt8.toNat_ofNat', id]
  omega
theorem str_bytesOf (s : ByteArray) : strOfNums (bytesOf s) = s := bytesOf_inj (bytesOf_str (fun _ => bytesOf_range))
theorem bytesOf_extract (s : ByteArray) (a b : Nat) : bytesOf (s.extract a b) = ((bytesOf s).drop a).take (b - a) := by
  unfold bytesOf
  rw [Lib.extract_data, List.map_take, List.map_drop]
theorem bytesOf_app (a b : ByteArray) : bytesOf (a ++ b) = bytesOf a ++ bytesOf b := by
  unfold bytesOf
  rw [← List.map_append]
  congr 1
  first | done | simp
theorem bt_getD (s : ByteArray) (i : Int) : bt s i = (bytesOf s).getD i.toNat 0 := (rd_bytesOf s i).symm
theorem bytesOf_empty : bytesOf (⟨#[]⟩ : ByteArray) = [] := rfl
theorem size_eq (s : ByteArray) : s.size = (bytesOf s).length := (bytesOf_length s).symm
theorem size_app (a b : ByteArray) : (a ++ b).size = a.size + b.size := by simp

theorem drop_atL (l : List Int) (i : Nat) (h : i < l.length) : l.drop i = l.getD i 0 :: l.drop (i + 1) := by
  rw [List.drop_eq_getElem_cons h, List.getD_eq_getElem?_getD, List.getElem?_eq_getElem h]; rfl
theorem bt_bd0 (s : ByteArray) (i : Int) : 0 ≤ bt s i ∧ bt s i < 256 := by
  rw [bt_getD, List.getD_eq_getElem?_getD]
  rcases h : (bytesOf s)[i.toNat]? with _ | x
  · simp
  · exact bytesOf_range (List.mem_of_getElem? h)
def figL (n : Int) : Int := if n < 10 then 48 + n else 87 + n
def hexL : List Int → List Int
  | [] => []
  | b :: t => figL (b / 16) :: figL (b % 16) :: hexL t
def hexT (s : ByteArray) : ByteArray × Bool := if (s.size : Int) > 20000 then ((⟨#[]⟩ : ByteArray), false) else (strOfNums (hexL (bytesOf s)), true)
def valL (b : Int) : Int := if 48 ≤ b ∧ b ≤ 57 then b - 48 else if 97 ≤ b ∧ b ≤ 102 then b - 87 else -1
theorem valL_bd (b : Int) : -1 ≤ valL b ∧ valL b < 16 := by unfold valL; split; omega; split <;> omega
def unhexT : List Int → List Int → ByteArray × Bool
  | acc, a :: b :: t => if valL a < 0 then ((⟨#[]⟩ : ByteArray), false) else if valL b < 0 then ((⟨#[]⟩ : ByteArray), false) else unhexT (acc ++ [valL a * 16 + valL b]) t
  | acc, _ => (strOfNums acc, true)

set_option maxRecDepth 20000 in
theorem valF : ∀ n : Fin 256, Lib.indexByte (⟨#[48, 49, 50, 51, 52, 53, 54, 55, 56, 57, 97, 98, 99, 100, 101, 102]⟩ : ByteArray).data.toList (((n.val : Nat) : Int).toNat.toUInt8) = valL ((n.val : Nat) : Int) := by decide
theorem implVal (n : Int) (h : 0 ≤ n ∧ n < 256) : strings_IndexByte.f (⟨#[48, 49, 50, 51, 52, 53, 54, 55, 56, 57, 97, 98, 99, 100, 101, 102]⟩ : ByteArray) n = some (valL n) := by
  have := valF ⟨n.toNat, by omega⟩
  unfold strings_IndexByte.f
  rw [show (((⟨n.toNat, by omega⟩ : Fin 256).val : Nat) : Int) = n by simp; omega] at this
  rw [this]
theorem specVal (n : Int) (h : 0 ≤ n ∧ n < 256) : Gets (fun k => spec_l01Value.f k n) (· = valL n) := by
  unfold spec_l01Value.f
  have hj : ∀ b : Bool, (b = true ↔ 48 ≤ n ∧ n ≤ 57) → Gets (fun k => spec_l01Value.j0 k n b) (· = valL n) := by
    intro b hb
    unfold valL
    refine Gets.step (fun k => spec_l01Value.j0.eq_2 ..) (Gets.ite (fun h1 => Gets.ret ?_) (fun h1 => ?_))
    · rw [if_pos (hb.1 h1), wrapId (x := n) (by omega) (by omega), wrapId (by omega) (by omega)]
    · rw [if_neg (fun h2 => h1 (hb.2 h2))]
      refine Gets.ite (fun h2 => Gets.ite (fun h3 => Gets.ret ?_) (fun h3 => Gets.ret ?_)) (fun h2 => Gets.ret ?_)
      · rw [if_pos ⟨by omega, h3⟩, wrapId (x := n) (by omega) (by omega), wrapId (x := n - 97) (by omega) (by omega), wrapId (by omega) (by omega)]; omega
      · rw [if_neg (fun h => h3 h.2)]
      · rw [if_neg (fun h => h2 h.1)]
  refine Gets.ite (fun h1 => hj _ (by rw [decide_eq_true_iff]; omega)) (fun h1 => hj _ (by simp; omega))
theorem orF : ∀ a b : Fin 16, Go.bits .or .i64 (((a.val : Nat) : Int) * 16) ((b.val : Nat) : Int) = ((a.val : Nat) : Int) * 16 + ((b.val : Nat) : Int) := by decide
theorem or16 (a b : Int) (ha : 0 ≤ a ∧ a < 16) (hb : 0 ≤ b ∧ b < 16) : Go.bits .or .i64 (a * 16) b = a * 16 + b := by
  have := orF ⟨a.toNat, by omega⟩ ⟨b.toNat, by omega⟩
  simpa [show ((a.toNat : Nat) : Int) = a by omega, show ((b.toNat : Nat) : Int) = b by omega] using this
theorem unhex_end (acc : List Int) : unhexT acc [] = (strOfNums acc, true) := by unfold unhexT; rfl
theorem specUnhex_l0 (s : ByteArray) (hs : s.size ≤ 40000) (he : s.size % 2 = 0) (d : Nat) : ∀ (i : Nat) (acc : List Int), s.size - i = 2 * d → i ≤ s.size → acc.length ≤ i → Gets (fun k => spec_Unhex.l0 k s acc (i : Int)) (· = unhexT acc ((bytesOf s).drop i)) := by
  have hz := size_eq s
  induction d with
  | zero =>
    intro i acc hd hi ha
    refine Gets.step (fun k => spec_Unhex.l0.eq_2 ..) (Gets.neg (by omega) (Gets.ret ?_))
    rw [List.drop_of_length_le (by omega), unhex_end]
  | succ d ih =>
    intro i acc hd hi ha
    refine Gets.step (fun k => spec_Unhex.l0.eq_2 ..) (Gets.pos (by omega) (Gets.pos (by omega) ?_))
    have hb := bt_bd0 s i
    have e1 : wrap64 ((i : Int) + 1) = ((i + 1 : Nat) : Int) := by rw [wrapId (by omega) (by omega)]; omega
    have hc := bt_bd0 s ((i + 1 : Nat) : Int)
    rw [e1]
    refine Gets.bindE (specVal _ hb).ev (Gets.pos (by omega) (Gets.pos (by omega) (Gets.bindE (specVal _ hc).ev ?_)))
    have hd1 : (bytesOf s).drop i = bt s i :: bt s ((i + 1 : Nat) : Int) :: (bytesOf s).drop (i + 2) := by
      rw [drop_atL _ i (by omega), drop_atL _ (i + 1) (by omega), bt_getD, bt_getD]; simp
    rw [hd1]
    have v1 := valL_bd (bt s i)
    have v2 := valL_bd (bt s ((i + 1 : Nat) : Int))
    unfold unhexT
    refine Gets.ite (fun h => Gets.ret (by rw [if_pos h])) (fun h => ?_)
    rw [if_neg h]
    refine Gets.ite (fun h => Gets.ret (by rw [if_pos h])) (fun h' => ?_)
    rw [if_neg h']
    refine Gets.pos (by omega) ?_
    rw [wrapId (x := 16 * _) (by omega) (by omega), wrapId (x := 16 * _ + _) (by omega) (by omega), wrapId (x := (i : Int) + 2) (by omega) (by omega), show (i : Int) + 2 = ((i + 2 : Nat) : Int) by omega]
    rw [show (16 * valL (bt s i) + valL (bt s ((i + 1 : Nat) : Int))) % 256 = valL (bt s i) * 16 + valL (bt s ((i + 1 : Nat) : Int)) by omega]
    exact ih (i + 2) _ (by omega) (by omega) (by simp; omega)
theorem implUnhex_l0 (s : ByteArray) (hs : s.size ≤ 40000) (he : s.size % 2 = 0) (d : Nat) : ∀ (i : Nat) (acc : List Int), s.size - i = 2 * d → i ≤ s.size → acc.length ≤ i → Gets (fun k => impl_Unhex.l0 k s acc (i : Int)) (· = unhexT acc ((bytesOf s).drop i)) := by
  have hz := size_eq s
  induction d with
  | zero =>
    intro i acc hd hi ha
    refine Gets.step (fun k => impl_Unhex.l0.eq_2 ..) (Gets.neg (by omega) (Gets.ret ?_))
    rw [List.drop_of_length_le (by omega), unhex_end]
  | succ d ih =>
    intro i acc hd hi ha
    refine Gets.step (fun k => impl_Unhex.l0.eq_2 ..) (Gets.pos (by omega) (Gets.pos (by omega) ?_))
    have hb := bt_bd0 s i
    have e1 : wrap64 ((i : Int) + 1) = ((i + 1 : Nat) : Int) := by rw [wrapId (by omega) (by omega)]; omega
    have hc := bt_bd0 s ((i + 1 : Nat) : Int)
    rw [e1, implVal _ hb, implVal _ hc]
    simp only [Option.bind_some]
    refine Gets.pos (by omega) (Gets.pos (by omega) ?_)
    have hd1 : (bytesOf s).drop i = bt s i :: bt s ((i + 1 : Nat) : Int) :: (bytesOf s).drop (i + 2) := by
      rw [drop_atL _ i (by omega), drop_atL _ (i + 1) (by omega), bt_getD, bt_getD]; simp
    rw [hd1]
    have v1 := valL_bd (bt s i)
    have v2 := valL_bd (bt s ((i + 1 : Nat) : Int))
    unfold unhexT
    refine Gets.ite (fun h => Gets.ret (by rw [if_pos h])) (fun h => ?_)
    rw [if_neg h]
    refine Gets.ite (fun h => Gets.ret (by rw [if_pos h])) (fun h' => ?_)
    rw [if_neg h']
    refine Gets.pos (by omega) ?_
    rw [wrapId (x := valL (bt s i) * 16) (by omega) (by omega), or16 _ _ (by omega) (by omega), wrapId (x := (i : Int) + 2) (by omega) (by omega), show (i : Int) + 2 = ((i + 2 : Nat) : Int) by omega]
    rw [show (valL (bt s i) * 16 + valL (bt s ((i + 1 : Nat) : Int))) % 256 = valL (bt s i) * 16 + valL (bt s ((i + 1 : Nat) : Int)) by omega]
    exact ih (i + 2) _ (by omega) (by omega) (by simp; omega)
def unhexR (s : ByteArray) : ByteArray × Bool := if s.size % 2 = 0 ∧ s.size ≤ 40000 then unhexT [] (bytesOf s) else ((⟨#[]⟩ : ByteArray), false)
theorem specUnhex (s : ByteArray) : Gets (fun k => spec_Unhex.f k s) (· = unhexR s) := by
  unfold spec_Unhex.f unhexR
  have hj : ∀ b : Bool, (b = true ↔ ¬ (s.size % 2 = 0 ∧ s.size ≤ 40000)) → Gets (fun k => spec_Unhex.j0 k s b) (· = if s.size % 2 = 0 ∧ s.size ≤ 40000 then unhexT [] (bytesOf s) else ((⟨#[]⟩ : ByteArray), false)) := by
    intro b hb
    refine Gets.step (fun k => spec_Unhex.j0.eq_2 ..) (Gets.ite (fun h1 => Gets.ret (by rw [if_neg (hb.1 h1)])) (fun h1 => ?_))
    have h2 : s.size % 2 = 0 ∧ s.size ≤ 40000 := Decidable.byContradiction (fun h => h1 (hb.2 h))
    rw [if_pos h2]
    exact (specUnhex_l0 s h2.2 h2.1 (s.size / 2) 0 [] (by omega) (by omega) (by simp)).mono (fun r hr => by rw [hr]; simp)
  refine Gets.ite (fun h1 => hj _ (by simp; omega)) (fun h1 => hj _ ?_)
  rw [bne_iff_ne]; omega
theorem implUnhex (s : ByteArray) : Gets (fun k => impl_Unhex.f k s) (· = unhexR s) := by
  unfold impl_Unhex.f unhexR
  have hj : ∀ b : Bool, (b = true ↔ ¬ (s.size % 2 = 0 ∧ s.size ≤ 40000)) → Gets (fun k => impl_Unhex.j0 k s b) (· = if s.size % 2 = 0 ∧ s.size ≤ 40000 then unhexT [] (bytesOf s) else ((⟨#[]⟩ : ByteArray), false)) := by
    intro b hb
    refine Gets.step (fun k => impl_Unhex.j0.eq_2 ..) (Gets.ite (fun h1 => Gets.ret (by rw [if_neg (hb.1 h1)])) (fun h1 => ?_))
    have h2 : s.size % 2 = 0 ∧ s.size ≤ 40000 := Decidable.byContradiction (fun h => h1 (hb.2 h))
    rw [if_pos h2, wrapId (by omega) (by omega)]
    refine Gets.pos (by omega) (Gets.pos (by omega) ?_)
    exact (implUnhex_l0 s h2.2 h2.1 (s.size / 2) 0 [] (by omega) (by omega) (by simp)).mono (fun r hr => by rw [hr]; simp)
  refine Gets.ite (fun h1 => hj _ (by rw [decide_eq_true_iff]; omega)) (fun h1 => hj _ (by simp; omega))
theorem FnExactUnhex : laws_FnExactUnhex.Pure := by
  intro s hs
  refine Gets.rounds ?_
  unfold laws_FnExactUnhex.f
  refine Gets.ite (fun _ => Gets.ret rfl) (fun _ => ?_)
  exact Gets.bindE (specUnhex s).ev (Gets.bindE (implUnhex s).ev (Gets.pos rfl (Gets.neg (by simp) (Gets.ret rfl))))

end Go.Proofs.Ytojfhgelfmoplaa.Pure
