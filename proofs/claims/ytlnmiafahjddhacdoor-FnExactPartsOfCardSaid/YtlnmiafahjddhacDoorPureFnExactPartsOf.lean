/- The program's PartsOf and the reference's answer alike at every line, the listed tables being as the program's text lays them. -/
import Derived.Test.YtlnmiafahjddhacDoorStatFnExactPartsOf
import Derived.Lib.Strings
set_option linter.unusedVariables false
set_option linter.unusedSimpArgs false
namespace Go.Proofs.YtlnmiafahjddhacDoor.Pure
open Go.RowKit Go.Proofs.YtlnmiafahjddhacDoor.PFnExactPartsOf Go.Proofs.YtlnmiafahjddhacDoorW.PrintWords Go.Proofs.YtlnmiafahjddhacDoorW.PrintLast

/-! ### plain words: from some number of rounds on -/
def Gets {α : Type} (f : Nat → Option α) (Q : α → Prop) : Prop := ∃ r, Ev f r ∧ Q r
theorem Gets.ret {α : Type} {Q : α → Prop} {r : α} (h : Q r) : Gets (fun _ => some r) Q := ⟨r, Ev.now r, h⟩
theorem Gets.none {α : Type} {Q : α → Prop} (h : False) : Gets (fun _ => (Option.none : Option α)) Q := h.elim
theorem Gets.step {α : Type} {g f : Nat → Option α} {Q : α → Prop} (h : ∀ k, g (k + 1) = f k) (k : Gets f Q) : Gets g Q := by
  obtain ⟨r, hr, hq⟩ := k
  exact ⟨r, Ev.step h hr, hq⟩
theorem Ev.ite {α : Type} {c : Prop} [Decidable c] {f g : Nat → Option α} {r : α} (h : c → Ev f r) (k : ¬ c → Ev g r) : Ev (fun n => if c then f n else g n) r := by
  by_cases hc : c
  · simp only [hc, if_true]; exact h hc
  · simp only [hc, if_false]; exact k hc
theorem Gets.ite {α : Type} {c : Prop} [Decidable c] {f g : Nat → Option α} {Q : α → Prop} (h : c → Gets f Q) (k : ¬ c → Gets g Q) : Gets (fun n => if c then f n else g n) Q := by
  by_cases hc : c
  · simp only [hc, if_true]; exact h hc
  · simp only [hc, if_false]; exact k hc
theorem Gets.pos {α : Type} {c : Prop} [Decidable c] {f g : Nat → Option α} {Q : α → Prop} (hc : c) (h : Gets f Q) : Gets (fun n => if c then f n else g n) Q := by
  simp only [hc, if_true]; exact h
theorem Gets.neg {α : Type} {c : Prop} [Decidable c] {f g : Nat → Option α} {Q : α → Prop} (hc : ¬ c) (h : Gets g Q) : Gets (fun n => if c then f n else g n) Q := by
  simp only [hc, if_false]; exact h
theorem Gets.bind {α β : Type} {g : Nat → Option α} {f : Nat → α → Option β} {P : α → Prop} {Q : β → Prop} (h : Gets g P) (k : ∀ a, P a → Gets (fun n => f n a) Q) : Gets (fun n => (g n).bind (f n)) Q := by
  obtain ⟨a, ha, hp⟩ := h
  obtain ⟨r, hr, hq⟩ := k a hp
  exact ⟨r, Ev.bind ha hr, hq⟩
theorem Gets.bindE {α β : Type} {g : Nat → Option α} {f : Nat → α → Option β} {a : α} {Q : β → Prop} (h : Ev g a) (k : Gets (fun n => f n a) Q) : Gets (fun n => (g n).bind (f n)) Q := by
  obtain ⟨r, hr, hq⟩ := k
  exact ⟨r, Ev.bind h hr, hq⟩
theorem Gets.mono {α : Type} {f : Nat → Option α} {P Q : α → Prop} (h : Gets f P) (k : ∀ a, P a → Q a) : Gets f Q := by
  obtain ⟨r, hr, hp⟩ := h
  exact ⟨r, hr, k r hp⟩
theorem Gets.rounds {α : Type} {f : Nat → Option α} {r : α} (h : Gets f (· = r)) : ∃ k, f k = some r := by
  obtain ⟨a, ha, rfl⟩ := h
  exact ha.rounds
theorem Gets.ev {α : Type} {f : Nat → Option α} {r : α} (h : Gets f (· = r)) : Ev f r := by
  obtain ⟨a, ha, rfl⟩ := h
  exact ha
theorem Ev.gets {α : Type} {f : Nat → Option α} {r : α} {Q : α → Prop} (h : Ev f r) (hq : Q r) : Gets f Q := ⟨r, h, hq⟩
theorem Gets.same {α : Type} {o : Option α} {Q : α → Prop} {r : α} (h : o = some r) (hq : Q r) : Gets (fun _ => o) Q := by
  subst h; exact Gets.ret hq
theorem wrapId {x : Int} (h0 : -9223372036854775808 ≤ x) (h1 : x ≤ 9223372036854775807) : wrap64 x = x := by
  unfold wrap64; omega
theorem i64_bd {n : Int} (h : (Lit.int .i64 n).wf = true) : -9223372036854775808 ≤ n ∧ n ≤ 9223372036854775807 := by
  have hm : IntKind.i64.min = -9223372036854775808 := rfl
  simp [Lit.wf, hm] at h
  exact h
theorem boolEq {a b : Bool} {P Q : Prop} (ha : a = true ↔ P) (hb : b = true ↔ Q) (h : P ↔ Q) : a = b := by
  rw [Bool.eq_iff_iff, ha, hb, h]
theorem tmod_nn {a b : Int} (h : 0 ≤ a) : Int.tmod a b = a % b := Int.tmod_eq_emod_of_nonneg h
theorem tdiv_nn {a b : Int} (h : 0 ≤ a) : Int.tdiv a b = a / b := Int.tdiv_eq_ediv_of_nonneg h

/-! ### rows of numbers -/
theorem rd_get {l : List Int} {i : Int} (h : i.toNat < l.length) : rd l i = l[i.toNat] := by
  unfold rd; rw [List.getD_eq_getElem?_getD, List.getElem?_eq_getElem h]; rfl
theorem fill_step {α : Type} (l : List α) (d : α) (i : Nat) (h : i < l.length) : (l.take i ++ List.replicate (l.length - i) d).set i l[i] = l.take (i + 1) ++ List.replicate (l.length - (i + 1)) d := by
  have e : List.replicate (l.length - i) d = d :: List.replicate (l.length - (i + 1)) d := by
    rw [show l.length - i = (l.length - (i + 1)) + 1 by omega]; rfl
  rw [e, List.set_append_right _ _ (by rw [List.length_take]; omega), List.length_take, show i - min i l.length = 0 by omega, List.set_cons_zero, List.take_succ_eq_append_getElem h, List.append_assoc]
  rfl
theorem drop_at {α : Type} (l : List α) (i : Nat) (h : i < l.length) : l.drop i = l[i] :: l.drop (i + 1) := List.drop_eq_getElem_cons h
def marks (k : Int) (n : Nat) : List Int := (List.range n).map (fun (i : Nat) => k + (i : Int))
theorem marks_length (k : Int) (n : Nat) : (marks k n).length = n := by simp [marks]
theorem marks_get (k : Int) (n i : Nat) (h : i < n) : (marks k n)[i]'(by rw [marks_length]; exact h) = k + i := by simp [marks]

/-! ### texts as lists of numbers -/
theorem bytesOf_inj {a b : ByteArray} (h : bytesOf a = bytesOf b) : a = b := by
  have hl : a.data.toList = b.data.toList := by
    unfold bytesOf at h
    exact List.map_inj_right (fun x y hxy => UInt8.toNat_inj.1 (by exact_mod_cast hxy)) |>.1 h
  have hd : a.data = b.data := Array.toList_inj.1 hl
  cases a; cases b; cases hd; rfl
theorem toList_iff (a b : ByteArray) : a.toList = b.toList ↔ a = b := by
  rw [Lib.toList_data, Lib.toList_data]
  exact ⟨fun h => bytesOf_inj (by unfold bytesOf; rw [h]), fun h => by rw [h]⟩
theorem bytesOf_range {s : ByteArray} {x : Int} (h : x ∈ bytesOf s) : 0 ≤ x ∧ x < 256 := by
  unfold bytesOf at h
  obtain ⟨b, _, rfl⟩ := List.mem_map.1 h
  have := b.toNat_lt
  omega
theorem bytesOf_str {xs : List Int} (h : ∀ x ∈ xs, 0 ≤ x ∧ x < 256) : bytesOf (strOfNums xs) = xs := by
  unfold bytesOf
  rw [strOfNums_data, List.map_map]
  conv => rhs; rw [← List.map_id xs]
  refine List.map_congr_left (fun x hx => ?_)
  have := h x hx
  simp only [Function.comp, UInt8.toNat_ofNat', id]
  omega
theorem str_bytesOf (s : ByteArray) : strOfNums (bytesOf s) = s := bytesOf_inj (bytesOf_str (fun _ => bytesOf_range))
theorem bytesOf_extract (s : ByteArray) (a b : Nat) : bytesOf (s.extract a b) = ((bytesOf s).drop a).take (b - a) := by
  unfold bytesOf
  rw [Lib.extract_data, List.map_take, List.map_drop]
theorem bytesOf_app (a b : ByteArray) : bytesOf (a ++ b) = bytesOf a ++ bytesOf b := by
  unfold bytesOf
  rw [← List.map_append]
  congr 1
  first | done | simp
theorem bt_getD (s : ByteArray) (i : Int) : bt s i = (bytesOf s).getD i.toNat 0 := (rd_bytesOf s i).symm
theorem bytesOf_empty : bytesOf (⟨#[]⟩ : ByteArray) = [] := rfl
theorem size_eq (s : ByteArray) : s.size = (bytesOf s).length := (bytesOf_length s).symm
theorem size_app (a b : ByteArray) : (a ++ b).size = a.size + b.size := by simp

theorem rdS_get {l : List ByteArray} {i : Int} (h : i.toNat < l.length) : rdOf ByteArray.empty l i = l[i.toNat] := by
  unfold rdOf; rw [List.getD_eq_getElem?_getD, List.getElem?_eq_getElem h]; rfl
def shortL (l : List ByteArray) : Bool := l.all (fun s => decide ((s.size : Int) ≤ 60))
theorem shortL_iff (l : List ByteArray) : shortL l = true ↔ ∀ s ∈ l, s.size ≤ 60 := by
  unfold shortL
  rw [List.all_eq_true]
  exact ⟨fun h s hs => by have := of_decide_eq_true (h s hs); omega, fun h s hs => decide_eq_true (by have := h s hs; omega)⟩
theorem shortL_cons (s : ByteArray) (l : List ByteArray) : shortL (s :: l) = (decide ((s.size : Int) ≤ 60) && shortL l) := rfl

def S32 : ByteArray := ⟨#[32]⟩
theorem idx1 (l : List UInt8) : (Lib.index l [32] = -1 ∧ ∀ b ∈ l, b ≠ 32) ∨ ∃ p q, l = p ++ 32 :: q ∧ (∀ b ∈ p, b ≠ 32) ∧ Lib.index l [32] = (p.length : Int) := by
  induction l with
  | nil => exact .inl ⟨rfl, by simp⟩
  | cons b l ih =>
    by_cases hb : b = 32
    · subst hb
      exact .inr ⟨[], l, rfl, by simp, by simp [Lib.index, List.isPrefixOf]⟩
    · have e : Lib.index (b :: l) [32] = if Lib.index l [32] == -1 then -1 else Lib.index l [32] + 1 := by
        rw [Lib.index]
        rw [if_neg]
        simp [List.isPrefixOf]
        exact fun h => hb h.symm
      rw [e]
      rcases ih with ⟨h1, h2⟩ | ⟨p, q, h1, h2, h3⟩
      · refine .inl ⟨by rw [h1]; rfl, fun c hc => ?_⟩
        rcases List.mem_cons.1 hc with rfl | hc
        · exact hb
        · exact h2 c hc
      · refine .inr ⟨b :: p, q, by rw [h1]; rfl, fun c hc => ?_, ?_⟩
        · rcases List.mem_cons.1 hc with rfl | hc
          · exact hb
          · exact h2 c hc
        · rw [h3, if_neg (by first | (simp; done) | (simp; omega))]; simp
def splitW : List Int → List Int → List (List Int)
  | c, [] => [c]
  | c, b :: t => if b = 32 then c :: splitW [] t else splitW (c ++ [b]) t
theorem splitW_no (L : List Int) : ∀ c, (∀ b ∈ L, b ≠ 32) → splitW c L = [c ++ L] := by
  induction L with
  | nil => intro c _; simp [splitW]
  | cons b L ih =>
    intro c h
    rw [splitW, if_neg (h b (List.mem_cons_self ..)), ih _ (fun x hx => h x (List.mem_cons_of_mem _ hx))]
    simp
theorem splitW_hit (P Q : List Int) : ∀ c, (∀ b ∈ P, b ≠ 32) → splitW c (P ++ 32 :: Q) = (c ++ P) :: splitW [] Q := by
  induction P with
  | nil => intro c _; simp [splitW]
  | cons b P ih =>
    intro c h
    rw [List.cons_append, splitW, if_neg (h b (List.mem_cons_self ..)), ih _ (fun x hx => h x (List.mem_cons_of_mem _ hx))]
    simp
theorem ne32 (p : List UInt8) (h : ∀ b ∈ p, b ≠ 32) : ∀ b ∈ p.map (fun b => (b.toNat : Int)), b ≠ 32 := by
  intro b hb
  obtain ⟨x, hx, rfl⟩ := List.mem_map.1 hb
  intro h1
  exact h x hx (UInt8.toNat_inj.1 (by show x.toNat = 32; omega))
theorem splitB_W (n : Nat) : ∀ s : ByteArray, s.size ≤ n → (Lib.splitB S32 0 (Lib.countB s S32) s).map bytesOf = splitW [] (bytesOf s) := by
  induction n using Nat.strongRecOn with
  | _ n ih =>
  intro s hn
  have hsep : S32.data.toList = [32] := rfl
  have hb : bytesOf s = s.data.toList.map (fun b => (b.toNat : Int)) := rfl
  have hz := size_eq s
  rcases idx1 s.data.toList with ⟨h1, h2⟩ | ⟨p, q, h1, h2, h3⟩
  · have hm : Lib.indexB s S32 = -1 := by show Lib.index s.data.toList S32.data.toList = -1; rw [hsep]; exact h1
    rw [Lib.splitB_miss _ _ _ _ hm, hb, splitW_no _ _ (ne32 _ h2)]
    simp [hb]
  · have hm : Lib.indexB s S32 = (p.length : Int) := by show Lib.index s.data.toList S32.data.toList = _; rw [hsep]; exact h3
    have hpl : s.size = p.length + 1 + q.length := by rw [hz, hb, h1]; simp; omega
    have hcount := Lib.countB_hit s S32 p.length (by decide) hm
    have e1 : bytesOf (s.extract 0 (p.length + 0)) = p.map (fun b => (b.toNat : Int)) := by
      rw [bytesOf_extract, hb, h1]; simp
    have e2 : bytesOf (s.extract (p.length + S32.size) s.size) = q.map (fun b => (b.toNat : Int)) := by
      rw [bytesOf_extract, hb, h1, show S32.size = 1 from rfl]
      rw [List.take_of_length_le (by simp; omega), List.map_append, List.map_cons]
      rw [show p.length + 1 = (p.map (fun b : UInt8 => (b.toNat : Int)) ++ [((32 : UInt8).toNat : Int)]).length by simp]
      rw [show p.map (fun b : UInt8 => (b.toNat : Int)) ++ ((32 : UInt8).toNat : Int) :: q.map (fun b : UInt8 => (b.toNat : Int)) = (p.map (fun b : UInt8 => (b.toNat : Int)) ++ [((32 : UInt8).toNat : Int)]) ++ q.map (fun b : UInt8 => (b.toNat : Int)) by simp]
      rw [List.drop_left]
    have e3 : (s.extract (p.length + S32.size) s.size).size < n := by
      rw [size_eq, e2]; simp; omega
    rw [hcount, Nat.add_comm 1, Lib.splitB_hit _ _ _ _ _ hm, List.map_cons, e1, ih _ e3 _ (Nat.le_refl _), e2, hb, h1, List.map_append, List.map_cons]
    rw [show ((32 : UInt8).toNat : Int) = 32 from rfl, splitW_hit _ _ _ (ne32 _ h2)]
    rfl
def wordsW (c L : List Int) : List (List Int) := (splitW c L).filter (fun x => decide (x ≠ []))
def goodL (L : List Int) : Prop := ∀ b ∈ L, 32 ≤ b ∧ b ≤ 126
theorem map_inj (a b : List ByteArray) (h : a.map bytesOf = b.map bytesOf) : a = b := (List.map_inj_right (fun _ _ h => bytesOf_inj h)).1 h
theorem wordsW_nil (c : List Int) : wordsW c [] = if c = [] then [] else [c] := by unfold wordsW splitW; by_cases h : c = [] <;> simp [h]
theorem wordsW_sep (c t : List Int) : wordsW c (32 :: t) = (if c = [] then [] else [c]) ++ wordsW [] t := by
  unfold wordsW; rw [splitW, if_pos rfl]; by_cases h : c = [] <;> simp [h]
theorem wordsW_in (c t : List Int) (b : Int) (h : b ≠ 32) : wordsW c (b :: t) = wordsW (c ++ [b]) t := by
  unfold wordsW; rw [splitW, if_neg h]
def partsQ (W : List (List Int)) (r : List ByteArray × Bool) : Prop := (W.length > 10 → r = ([], false)) ∧ (W.length ≤ 10 → r.1.map bytesOf = W ∧ r.2 = true)

theorem specParts_end (s : ByteArray) (hs : s.size ≤ 600) (acc : List ByteArray) (b : Int) : Gets (fun k => spec_PartsOf.l0 k s acc b ((s.size : Int) + 1)) (partsQ (acc.map bytesOf)) := by
  refine Gets.step (fun k => spec_PartsOf.l0.eq_2 ..) (Gets.neg (by omega) (Gets.ite (fun h => Gets.ret ⟨fun _ => rfl, fun h2 => ?_⟩) (fun h => Gets.ret ⟨fun h2 => ?_, fun _ => ⟨rfl, rfl⟩⟩)))
  · rw [List.length_map] at h2; omega
  · rw [List.length_map] at h2; omega
theorem specParts (s : ByteArray) (hs : s.size ≤ 600) (d : Nat) : ∀ (i b : Nat) (acc : List ByteArray), s.size - i = d → i ≤ s.size → b ≤ i → acc.length ≤ i → Gets (fun k => spec_PartsOf.l0 k s acc (b : Int) (i : Int)) (fun r => (goodL ((bytesOf s).drop i) → partsQ (acc.map bytesOf ++ wordsW (((bytesOf s).drop b).take (i - b)) ((bytesOf s).drop i)) r) ∧ (¬ goodL ((bytesOf s).drop i) → r = ([], false))) := by
  have hz := size_eq s
  have hcl : ∀ b i : Nat, b ≤ i → i ≤ s.size → (((bytesOf s).drop b).take (i - b)).length = i - b := by
    intro b i h1 h2; rw [List.length_take, List.length_drop]; omega
  have hj2 : ∀ (i b : Nat) (acc : List ByteArray) (Q : List ByteArray × Bool → Prop), i ≤ s.size → b ≤ i → acc.length ≤ i → (b < i → Gets (fun k => spec_PartsOf.l0 k s (acc ++ [s.extract b i]) ((i : Int) + 1) ((i : Int) + 1)) Q) → (b = i → Gets (fun k => spec_PartsOf.l0 k s acc ((i : Int) + 1) ((i : Int) + 1)) Q) → Gets (fun k => spec_PartsOf.j2 k s acc (b : Int) (i : Int) false) Q := by
    intro i b acc Q hi hb ha h1 h2
    refine Gets.step (fun k => spec_PartsOf.j2.eq_2 ..) (Gets.neg (by simp) ?_)
    rw [wrapId (x := (i : Int) + 1) (by omega) (by omega)]
    refine Gets.ite (fun h => Gets.pos (by omega) (Gets.pos (by omega) (Gets.pos (by omega) (Gets.pos (by omega) ?_)))) (fun h => h2 (by omega))
    exact h1 (by omega)
  have hext : ∀ b i : Nat, bytesOf (s.extract b i) = ((bytesOf s).drop b).take (i - b) := fun b i => bytesOf_extract s b i
  induction d with
  | zero =>
    intro i b acc hd hi hb ha
    obtain rfl : i = s.size := by omega
    have hdr : (bytesOf s).drop s.size = [] := List.drop_of_length_le (by omega)
    rw [hdr]
    refine Gets.step (fun k => spec_PartsOf.l0.eq_2 ..) (Gets.pos (by omega) (Gets.neg (by omega) ?_))
    refine Gets.step (fun k => spec_PartsOf.j1.eq_2 ..) (Gets.neg (by simp) (Gets.neg (by omega) ?_))
    refine hj2 s.size b acc _ (by omega) hb ha (fun h => ?_) (fun h => ?_)
    · refine (specParts_end s hs _ _).mono (fun r hr => ⟨fun _ => ?_, fun h2 => absurd (by intro x hx; simp at hx) h2⟩)
      have hne : ((bytesOf s).drop b).take (s.size - b) ≠ [] := by intro h3; have := hcl b s.size hb (by omega); rw [h3] at this; simp at this; omega
      rw [wordsW_nil, if_neg hne, ← hext]
      rw [List.map_append] at hr; exact hr
    · refine (specParts_end s hs _ _).mono (fun r hr => ⟨fun _ => ?_, fun h2 => absurd (by intro x hx; simp at hx) h2⟩)
      rw [h, Nat.sub_self, List.take_zero, wordsW_nil, if_pos rfl, List.append_nil]; exact hr
  | succ d ih =>
    intro i b acc hd hi hb ha
    have hil : i < (bytesOf s).length := by omega
    have hdr : (bytesOf s).drop i = bt s i :: (bytesOf s).drop (i + 1) := by
      rw [List.drop_eq_getElem_cons hil, bt_getD, Int.toNat_natCast, List.getD_eq_getElem?_getD, List.getElem?_eq_getElem hil]; rfl
    rw [hdr]
    have hbad : ¬ (32 ≤ bt s i ∧ bt s i ≤ 126) → ¬ goodL (bt s i :: (bytesOf s).drop (i + 1)) := fun h h2 => h (h2 _ (List.mem_cons_self ..))
    have hrest : (32 ≤ bt s i ∧ bt s i ≤ 126) → (goodL (bt s i :: (bytesOf s).drop (i + 1)) ↔ goodL ((bytesOf s).drop (i + 1))) := by
      intro h
      refine ⟨fun h2 x hx => h2 x (List.mem_cons_of_mem _ hx), fun h2 x hx => ?_⟩
      rcases List.mem_cons.1 hx with rfl | hx
      · exact h
      · exact h2 x hx
    have e1 : (i : Int) + 1 = ((i + 1 : Nat) : Int) := by omega
    refine Gets.step (fun k => spec_PartsOf.l0.eq_2 ..) (Gets.pos (by omega) (Gets.pos (by omega) (Gets.pos (by omega) ?_)))
    have hj1 : ∀ x : Bool, (x = true ↔ ¬ (32 ≤ bt s i ∧ bt s i ≤ 126)) → Gets (fun k => spec_PartsOf.j1 k s acc (b : Int) (i : Int) x) (fun r => (goodL (bt s i :: (bytesOf s).drop (i + 1)) → partsQ (acc.map bytesOf ++ wordsW (((bytesOf s).drop b).take (i - b)) (bt s i :: (bytesOf s).drop (i + 1))) r) ∧ (¬ goodL (bt s i :: (bytesOf s).drop (i + 1)) → r = ([], false))) := by
      intro x hx
      refine Gets.step (fun k => spec_PartsOf.j1.eq_2 ..) (Gets.ite (fun h => Gets.ret ⟨fun h2 => absurd h2 (hbad (hx.1 h)), fun _ => rfl⟩) (fun h => ?_))
      have hg : 32 ≤ bt s i ∧ bt s i ≤ 126 := Decidable.byContradiction (fun h2 => h (hx.2 h2))
      refine Gets.pos (by omega) (Gets.pos (by omega) ?_)
      rw [hrest hg]
      by_cases h32 : bt s i = 32
      · rw [h32, show ((32 : Int) != 32) = false from rfl]
        refine hj2 i b acc _ hi hb ha (fun h3 => ?_) (fun h3 => ?_)
        · have hne : ((bytesOf s).drop b).take (i - b) ≠ [] := by intro h4; have := hcl b i hb hi; rw [h4] at this; simp at this; omega
          rw [e1]
          refine (ih (i + 1) (i + 1) _ (by omega) (by omega) (by omega) (by simp; omega)).mono (fun r hr => ⟨fun h2 => ?_, hr.2⟩)
          have := hr.1 h2
          rw [Nat.sub_self, List.take_zero, List.map_append, List.map_cons, List.map_nil, hext] at this
          rw [wordsW_sep, if_neg hne, ← List.append_assoc]
          exact this
        · rw [e1]
          refine (ih (i + 1) (i + 1) _ (by omega) (by omega) (by omega) (by omega)).mono (fun r hr => ⟨fun h2 => ?_, hr.2⟩)
          have := hr.1 h2
          rw [Nat.sub_self, List.take_zero] at this
          rw [wordsW_sep, h3, Nat.sub_self, List.take_zero, if_pos rfl, List.nil_append]
          exact this
      · rw [show (bt s i != 32) = true from bne_iff_ne.2 h32]
        refine Gets.step (fun k => spec_PartsOf.j2.eq_2 ..) (Gets.pos rfl ?_)
        rw [wrapId (x := (i : Int) + 1) (by omega) (by omega), e1]
        refine (ih (i + 1) b _ (by omega) (by omega) (by omega) (by omega)).mono (fun r hr => ⟨fun h2 => ?_, hr.2⟩)
        have := hr.1 h2
        have hc : ((bytesOf s).drop b).take (i + 1 - b) = ((bytesOf s).drop b).take (i - b) ++ [bt s i] := by
          have h7 : ((bytesOf s).drop b)[i - b]? = some (bt s i) := by
            rw [List.getElem?_drop, show b + (i - b) = i by omega, List.getElem?_eq_getElem hil, bt_getD, Int.toNat_natCast, List.getD_eq_getElem?_getD, List.getElem?_eq_getElem hil]; rfl
          obtain ⟨_, h8⟩ := List.getElem?_eq_some_iff.1 h7
          rw [show i + 1 - b = (i - b) + 1 by omega, List.take_succ_eq_append_getElem (by rw [List.length_drop]; omega), h8]
        rw [hc] at this
        rw [wordsW_in _ _ _ h32]
        exact this
    exact Gets.ite (fun h => hj1 true (by simp; omega)) (fun h => hj1 _ (by rw [decide_eq_true_iff]; omega))

theorem implParts_l1 (L : List ByteArray) (hL : L.length ≤ 700) (d : Nat) : ∀ (j : Nat) (acc : List ByteArray), L.length - j = d → j ≤ L.length → acc.length ≤ j → Gets (fun k => impl_PartsOf.l1 k acc L (L.length : Int) (j : Int)) (partsQ (acc.map bytesOf ++ ((L.drop j).map bytesOf).filter (fun x => decide (x ≠ [])))) := by
  induction d with
  | zero =>
    intro j acc hd hj ha
    rw [List.drop_of_length_le (by omega)]
    refine Gets.step (fun k => impl_PartsOf.l1.eq_2 ..) (Gets.neg (by omega) (Gets.ite (fun h => Gets.ret ⟨fun _ => rfl, fun h2 => ?_⟩) (fun h => Gets.ret ⟨fun h2 => ?_, fun _ => ⟨by simp, rfl⟩⟩)))
    · simp at h2; omega
    · simp at h2; omega
  | succ d ih =>
    intro j acc hd hj ha
    have hjl : j < L.length := by omega
    have e1 : rdOf ByteArray.empty L (j : Int) = L[j] := rdS_get (by simpa using hjl)
    refine Gets.step (fun k => impl_PartsOf.l1.eq_2 ..) (Gets.pos (by omega) (Gets.pos (by omega) (Gets.pos (by omega) ?_)))
    simp only [e1]
    rw [wrapId (x := (j : Int) + 1) (by omega) (by omega), show ((j : Int) + 1) = ((j + 1 : Nat) : Int) by omega, drop_at L j hjl, List.map_cons]
    have hnil : L[j].toList = ([] : List UInt8) ↔ bytesOf L[j] = [] := by rw [Lib.toList_data]; unfold bytesOf; simp
    refine Gets.ite (fun h => ?_) (fun h => Gets.pos (by omega) ?_)
    · refine (ih (j + 1) acc (by omega) (by omega) (by omega)).mono (fun r hr => ?_)
      rw [List.filter_cons_of_neg (by simpa using hnil.1 h)]; exact hr
    · refine (ih (j + 1) _ (by omega) (by omega) (by simp; omega)).mono (fun r hr => ?_)
      rw [List.filter_cons_of_pos (by simpa using fun h2 => h (hnil.2 h2))]
      simpa using hr
theorem implParts_l0 (s : ByteArray) (hs : s.size ≤ 600) (d : Nat) : ∀ i : Nat, s.size - i = d → i ≤ s.size → Gets (fun k => impl_PartsOf.l0 k s (i : Int)) (fun r => (goodL ((bytesOf s).drop i) → partsQ (wordsW [] (bytesOf s)) r) ∧ (¬ goodL ((bytesOf s).drop i) → r = ([], false))) := by
  have hz := size_eq s
  induction d with
  | zero =>
    intro i hd hi
    have hdr : (bytesOf s).drop i = [] := List.drop_of_length_le (by omega)
    rw [hdr]
    refine Gets.step (fun k => impl_PartsOf.l0.eq_2 ..) (Gets.neg (by omega) ?_)
    unfold strings_Split.f
    rw [if_pos ⟨by omega, by decide⟩]
    simp only [Option.bind_some]
    have hc := Lib.countB_le S32 (by decide) s.size s (Nat.le_refl _)
    have hl := Lib.splitB_all S32 (by decide) 0 _ s rfl
    refine (implParts_l1 (Lib.splitB S32 0 (Lib.countB s S32) s) (by omega) _ 0 [] rfl (by omega) (by simp)).mono (fun r hr => ⟨fun _ => ?_, fun h2 => absurd (by intro x hx; simp at hx) h2⟩)
    rw [List.drop_zero, splitB_W s.size s (Nat.le_refl _)] at hr
    exact hr
  | succ d ih =>
    intro i hd hi
    have hil : i < (bytesOf s).length := by omega
    have hdr : (bytesOf s).drop i = bt s i :: (bytesOf s).drop (i + 1) := by
      rw [List.drop_eq_getElem_cons hil, bt_getD, Int.toNat_natCast, List.getD_eq_getElem?_getD, List.getElem?_eq_getElem hil]; rfl
    rw [hdr]
    have hbad : ¬ (32 ≤ bt s i ∧ bt s i ≤ 126) → ¬ goodL (bt s i :: (bytesOf s).drop (i + 1)) := fun h h2 => h (h2 _ (List.mem_cons_self ..))
    refine Gets.step (fun k => impl_PartsOf.l0.eq_2 ..) (Gets.pos (by omega) (Gets.pos (by omega) ?_))
    refine Gets.ite (fun h => Gets.ret ⟨fun h2 => absurd h2 (hbad (by omega)), fun _ => rfl⟩) (fun h => Gets.ite (fun h' => Gets.ret ⟨fun h2 => absurd h2 (hbad (by omega)), fun _ => rfl⟩) (fun h' => ?_))
    rw [wrapId (x := (i : Int) + 1) (by omega) (by omega), show ((i : Int) + 1) = ((i + 1 : Nat) : Int) by omega]
    refine (ih (i + 1) (by omega) (by omega)).mono (fun r hr => ⟨fun h2 => hr.1 (fun x hx => h2 x (List.mem_cons_of_mem _ hx)), fun h2 => hr.2 (fun h3 => h2 (fun x hx => ?_))⟩)
    rcases List.mem_cons.1 hx with rfl | hx
    · omega
    · exact h3 x hx

theorem eqStringS_l0 (a b : List ByteArray) (ha : a.length ≤ 35184372088832) (hab : a.length = b.length) (d : Nat) : ∀ i : Nat, a.length - i = d → i ≤ a.length → Gets (fun k => laws_eqStringS.l0 k a b (i : Int)) (fun r => r = true ↔ a.drop i = b.drop i) := by
  induction d with
  | zero =>
    intro i hd hi
    refine Gets.step (fun k => laws_eqStringS.l0.eq_2 ..) (Gets.neg (by omega) (Gets.ret ?_))
    rw [List.drop_of_length_le (by omega), List.drop_of_length_le (by omega)]
    simp
  | succ d ih =>
    intro i hd hi
    refine Gets.step (fun k => laws_eqStringS.l0.eq_2 ..) (Gets.pos (by omega) (Gets.pos (by omega) (Gets.pos (by omega) ?_)))
    have e1 : rdOf ByteArray.empty a (i : Int) = a[i] := rdS_get (by omega)
    have e2 : rdOf ByteArray.empty b (i : Int) = b[i] := rdS_get (by omega)
    simp only [e1, e2]
    rw [wrapId (by omega) (by omega), drop_at a i (by omega), drop_at b i (by omega)]
    refine Gets.ite (fun h => ?_) (fun h => Gets.ret ?_)
    · rw [show ((i : Int) + 1) = ((i + 1 : Nat) : Int) by omega]
      refine (ih (i + 1) (by omega) (by omega)).mono (fun r hr => ?_)
      rw [hr]
      simp only [List.cons.injEq, (toList_iff _ _).1 h, true_and]
    · have hne : ¬ a[i] = b[i] := fun e => h (by rw [e])
      simp only [List.cons.injEq, hne, false_and, Bool.false_eq_true]
theorem eqStringS (a b : List ByteArray) (ha : a.length ≤ 35184372088832) : Gets (fun k => laws_eqStringS.f k a b) (fun r => r = true ↔ a = b) := by
  unfold laws_eqStringS.f
  refine Gets.ite (fun h => ?_) (fun h => Gets.ret ?_)
  · exact eqStringS_l0 a b ha (by omega) a.length 0 (by omega) (by omega)
  · simp only [Bool.false_eq_true, false_iff]
    rintro rfl
    exact h rfl
theorem eqStringS_true (a : List ByteArray) (ha : a.length ≤ 35184372088832) : Gets (fun k => laws_eqStringS.f k a a) (fun r => r = true) := (eqStringS a a ha).mono (fun r hr => hr.2 rfl)

theorem markText_l0 (d : Nat) : ∀ (n : Nat) (s : ByteArray), n < 10 ^ d → s.size + d ≤ 1000 → n ≤ 9000000000 → ∃ t, Ev (fun k => laws_markText.l0 k (n : Int) s) t := by
  induction d with
  | zero =>
    intro n s h hs hn
    have e : Gets (fun k => laws_markText.l0 k (n : Int) s) (fun _ => True) := Gets.step (fun k => laws_markText.l0.eq_2 ..) (Gets.neg (by omega) (Gets.pos (by omega) (Gets.ret trivial)))
    obtain ⟨t, ht, _⟩ := e
    exact ⟨t, ht⟩
  | succ d ih =>
    intro n s h hs hn
    have e : Gets (fun k => laws_markText.l0 k (n : Int) s) (fun _ => True) := by
      refine Gets.step (fun k => laws_markText.l0.eq_2 ..) (Gets.ite (fun h1 => ?_) (fun h1 => Gets.pos (by omega) (Gets.ret trivial)))
      simp only [Option.bind_some]
      refine Gets.pos (by rw [strOfNums_size]; simp; omega) ?_
      rw [tdiv_nn (by omega), wrapId (x := (n : Int) / 10) (by omega) (by omega), show (n : Int) / 10 = ((n / 10 : Nat) : Int) by omega]
      obtain ⟨t, ht⟩ := ih (n / 10) (strOfNums [(wrap64 (48 + (Int.tmod n 10))) % 256] ++ s) (by
        have : (10 : Nat) ^ (d + 1) = 10 ^ d * 10 := Nat.pow_succ ..
        rw [Nat.div_lt_iff_lt_mul (by omega)]; omega) (by simp [strOfNums_size]; omega) (by omega)
      exact Ev.gets ht trivial
    obtain ⟨t, ht, _⟩ := e
    exact ⟨t, ht⟩
theorem markText_some (n : Int) (h0 : 0 ≤ n) (h1 : n ≤ 9000000000) : ∃ t, Ev (fun k => laws_markText.f k n) t := by
  by_cases h : n ≤ 0
  · exact ⟨_, (Gets.pos (f := fun _ => some (⟨#[109, 48]⟩ : ByteArray)) (g := fun k => laws_markText.l0 k n (⟨#[]⟩ : ByteArray)) (Q := (· = (⟨#[109, 48]⟩ : ByteArray))) h (Gets.ret rfl)).ev⟩
  · obtain ⟨m, rfl⟩ := Int.eq_ofNat_of_zero_le h0
    obtain ⟨t, ht⟩ := markText_l0 10 m (⟨#[]⟩ : ByteArray) (by have : (10 : Nat) ^ 10 = 10000000000 := by decide
                                                               omega) (by decide) (by omega)
    exact ⟨t, (Gets.neg (f := fun _ => some (⟨#[109, 48]⟩ : ByteArray)) h (Ev.gets (Q := (· = t)) ht rfl)).ev⟩
/-- The text that marks n. -/
noncomputable def mtx (n : Int) : ByteArray := if h : 0 ≤ n ∧ n ≤ 9000000000 then Classical.choose (markText_some n h.1 h.2) else ⟨#[]⟩
theorem markText (n : Int) (h0 : 0 ≤ n) (h1 : n ≤ 9000000000) : Ev (fun k => laws_markText.f k n) (mtx n) := by
  unfold mtx
  rw [dif_pos ⟨h0, h1⟩]
  exact Classical.choose_spec (markText_some n h0 h1)

noncomputable def marksS (k : Int) (n : Nat) : List ByteArray := (List.range n).map (fun (i : Nat) => mtx (k + (i : Int)))
theorem marksS_length (k : Int) (n : Nat) : (marksS k n).length = n := by simp [marksS]
theorem marksS_get (k : Int) (n i : Nat) (h : i < n) : (marksS k n)[i]'(by rw [marksS_length]; exact h) = mtx (k + i) := by simp [marksS]
theorem markStringS_l0 (n : Nat) (m : Int) (hn : n ≤ 9000000) (hm : 0 ≤ m ∧ m ≤ 900000000) (d : Nat) : ∀ (i : Nat) (l : List ByteArray), n - i = d → i ≤ n → l.length = n → l.take i = marksS m i → Gets (fun k => laws_markStringS.l0 k l (m + i) (i : Int)) (· = (m + n, marksS m n)) := by
  induction d with
  | zero =>
    intro i l hd hi hl ht
    refine Gets.step (fun k => laws_markStringS.l0.eq_2 ..) (Gets.neg (by omega) (Gets.ret ?_))
    obtain rfl : i = n := by omega
    rw [List.take_of_length_le (by omega)] at ht
    rw [ht]
  | succ d ih =>
    intro i l hd hi hl ht
    refine Gets.step (fun k => laws_markStringS.l0.eq_2 ..) (Gets.pos (by omega) ?_)
    refine Gets.bindE (markText _ (by omega) (by omega)) (Gets.pos (by omega) ?_)
    rw [wrapId (by omega) (by omega), wrapId (by omega) (by omega)]
    simp only [Int.toNat_natCast]
    rw [show ((i : Int) + 1) = ((i + 1 : Nat) : Int) by omega, show m + (i : Int) + 1 = m + ((i + 1 : Nat) : Int) by omega]
    refine ih (i + 1) _ (by omega) (by omega) (by simpa using hl) ?_
    have hlt : i < (l.set i (mtx (m + i))).length := by rw [List.length_set]; omega
    rw [List.take_succ_eq_append_getElem hlt, List.getElem_set_self, List.take_set_of_le (by omega), ht]
    simp [marksS, List.range_succ]
theorem markStringS (l : List ByteArray) (m : Int) (hn : l.length ≤ 9000000) (hm : 0 ≤ m ∧ m ≤ 900000000) : Gets (fun k => laws_markStringS.f k l m) (· = (m + l.length, marksS m l.length)) := by
  unfold laws_markStringS.f
  have h := markStringS_l0 l.length m hn hm l.length 0 l (by omega) (by omega) rfl (by simp [marksS])
  simpa using h
theorem heldStringS_l0 (n : Nat) (m : Int) (hn : n ≤ 9000000) (hm : 0 ≤ m ∧ m ≤ 900000000) (d : Nat) : ∀ (i : Nat), n - i = d → i ≤ n → Gets (fun k => laws_heldStringS.l0 k (marksS m n) (m + i) (i : Int)) (· = m + n) := by
  induction d with
  | zero =>
    intro i hd hi
    refine Gets.step (fun k => laws_heldStringS.l0.eq_2 ..) (Gets.neg (by rw [marksS_length]; omega) (Gets.ret ?_))
    rw [show i = n by omega]
  | succ d ih =>
    intro i hd hi
    have e : rdOf ByteArray.empty (marksS m n) (i : Int) = mtx (m + i) := by
      rw [rdS_get (by rw [marksS_length]; omega)]
      exact marksS_get m n i (by omega)
    refine Gets.step (fun k => laws_heldStringS.l0.eq_2 ..) (Gets.pos (by rw [marksS_length]; omega) (Gets.pos (by omega) ?_))
    simp only [e]
    rw [wrapId (by omega) (by omega), wrapId (by omega) (by omega)]
    refine Gets.bindE (markText _ (by omega) (by omega)) (Gets.pos rfl ?_)
    rw [show ((i : Int) + 1) = ((i + 1 : Nat) : Int) by omega, show m + (i : Int) + 1 = m + ((i + 1 : Nat) : Int) by omega]
    exact ih (i + 1) (by omega) (by omega)
theorem heldStringS (m : Int) (n : Nat) (hn : n ≤ 9000000) (hm : 0 ≤ m ∧ m ≤ 900000000) : Gets (fun k => laws_heldStringS.f k (marksS m n) m) (· = m + n) := by
  unfold laws_heldStringS.f
  have h := heldStringS_l0 n m hn hm n 0 (by omega) (by omega)
  simpa using h

def partsR (s : ByteArray) (r : List ByteArray × Bool) : Prop := (s.size > 600 → r = ([], false)) ∧ (s.size ≤ 600 → (goodL (bytesOf s) → partsQ (wordsW [] (bytesOf s)) r) ∧ (¬ goodL (bytesOf s) → r = ([], false)))
theorem specP (s : ByteArray) : Gets (fun k => spec_PartsOf.f k s) (partsR s) := by
  unfold spec_PartsOf.f
  simp only [Option.bind_some]
  refine Gets.ite (fun h => Gets.ret ⟨fun _ => rfl, fun h2 => by omega⟩) (fun h => ?_)
  exact (specParts s (by omega) s.size 0 0 [] rfl (by omega) (by omega) (by simp)).mono (fun r hr => ⟨fun h2 => by omega, fun _ => by simpa using hr⟩)
theorem implP (s : ByteArray) : Gets (fun k => impl_PartsOf.f k s) (partsR s) := by
  unfold impl_PartsOf.f
  refine Gets.ite (fun h => Gets.ret ⟨fun _ => rfl, fun h2 => by omega⟩) (fun h => ?_)
  exact (implParts_l0 s (by omega) s.size 0 rfl (by omega)).mono (fun r hr => ⟨fun h2 => by omega, fun _ => by simpa using hr⟩)
theorem partsQ_one (W : List (List Int)) (a b : List ByteArray × Bool) (ha : partsQ W a) (hb : partsQ W b) : a = b ∧ a.1.length ≤ 10 := by
  rcases Nat.lt_or_ge 10 W.length with h | h
  · rw [ha.1 h, hb.1 h]; simp
  · obtain ⟨h1, h2⟩ := ha.2 h
    obtain ⟨h3, h4⟩ := hb.2 h
    refine ⟨Prod.ext (map_inj _ _ (h1.trans h3.symm)) (h2.trans h4.symm), ?_⟩
    have := congrArg List.length h1
    rw [List.length_map] at this
    omega
theorem partsR_one (s : ByteArray) (a b : List ByteArray × Bool) (ha : partsR s a) (hb : partsR s b) : a = b ∧ a.1.length ≤ 10 := by
  rcases Nat.lt_or_ge 600 s.size with h | h
  · rw [ha.1 h, hb.1 h]; simp
  · have h1 := ha.2 h
    have h2 := hb.2 h
    by_cases hg : goodL (bytesOf s)
    · exact partsQ_one _ a b (h1.1 hg) (h2.1 hg)
    · rw [h1.2 hg, h2.2 hg]; simp
theorem FnExactPartsOf : Stat.FnExactPartsOf := by
  intro s _
  refine Gets.rounds ?_
  unfold laws_FnExactPartsOf.f
  refine Gets.ite (fun _ => Gets.ret rfl) (fun _ => ?_)
  refine Gets.bind (specP s) (fun a ha => Gets.bind (implP s) (fun b hb => ?_))
  obtain ⟨rfl, hl⟩ := partsR_one s b a hb ha
  refine Gets.bind (eqStringS_true b.1 (by omega)) (fun t ht => Gets.pos ht ?_)
  refine Gets.step (fun k => laws_FnExactPartsOf.j0.eq_2 ..) (Gets.neg (by simp) ?_)
  refine Gets.bindE (markStringS b.1 1 (by omega) (by omega)).ev (Gets.bindE (heldStringS 1 _ (by omega) (by omega)).ev (Gets.neg (by omega) (Gets.pos rfl ?_)))
  refine Gets.bind (implP s) (fun c hc => ?_)
  obtain ⟨rfl, _⟩ := partsR_one s c b hc hb
  refine Gets.bind (eqStringS_true c.1 (by omega)) (fun t ht => Gets.pos ht ?_)
  refine Gets.step (fun k => laws_FnExactPartsOf.j1.eq_2 ..) (Gets.neg (by simp) ?_)
  exact Gets.bindE (heldStringS 1 _ (by omega) (by omega)).ev (Gets.neg (by omega) (Gets.pos rfl (Gets.ret rfl)))

end Go.Proofs.YtlnmiafahjddhacDoor.Pure
