/- A drawn end stays right, whatever comes, and what it took it takes no second time: for every drawn end and parcel. -/
import Derived.Test.YtlidnobkkgcnlaaStatFnReceives
import Derived.Lib.Strings
set_option linter.unusedVariables false
set_option linter.unusedSimpArgs false
namespace Go.Proofs.Ytlidnobkkgcnlaa.Pure
open Go.RowKit Go.Proofs.Ytlidnobkkgcnlaa.PFnReceives Go.Proofs.YtlidnobkkgcnlaaW.PrintWords Go.Proofs.YtlidnobkkgcnlaaW.PrintLast

/-! ### plain words: from some number of rounds on -/
def Gets {α : Type} (f : Nat → Option α) (Q : α → Prop) : Prop := ∃ r, Ev f r ∧ Q r
theorem Gets.ret {α : Type} {Q : α → Prop} {r : α} (h : Q r) : Gets (fun _ => some r) Q := ⟨r, Ev.now r, h⟩
theorem Gets.none {α : Type} {Q : α → Prop} (h : False) : Gets (fun _ => (Option.none : Option α)) Q := h.elim
theorem Gets.step {α : Type} {g f : Nat → Option α} {Q : α → Prop} (h : ∀ k, g (k + 1) = f k) (k : Gets f Q) : Gets g Q := by
  obtain ⟨r, hr, hq⟩ := k
  exact ⟨r, Ev.step h hr, hq⟩
theorem Ev.ite {α : Type} {c : Prop} [Decidable c] {f g : Nat → Option α} {r : α} (h : c → Ev f r) (k : ¬ c → Ev g r) : Ev (fun n => if c then f n else g n) r := by
  by_cases hc : c
  · simp only [hc, if_true]; exact h hc
  · simp only [hc, if_false]; exact k hc
theorem Gets.ite {α : Type} {c : Prop} [Decidable c] {f g : Nat → Option α} {Q : α → Prop} (h : c → Gets f Q) (k : ¬ c → Gets g Q) : Gets (fun n => if c then f n else g n) Q := by
  by_cases hc : c
  · simp only [hc, if_true]; exact h hc
  · simp only [hc, if_false]; exact k hc
theorem Gets.pos {α : Type} {c : Prop} [Decidable c] {f g : Nat → Option α} {Q : α → Prop} (hc : c) (h : Gets f Q) : Gets (fun n => if c then f n else g n) Q := by
  simp only [hc, if_true]; exact h
theorem Gets.neg {α : Type} {c : Prop} [Decidable c] {f g : Nat → Option α} {Q : α → Prop} (hc : ¬ c) (h : Gets g Q) : Gets (fun n => if c then f n else g n) Q := by
  simp only [hc, if_false]; exact h
theorem Gets.bind {α β : Type} {g : Nat → Option α} {f : Nat → α → Option β} {P : α → Prop} {Q : β → Prop} (h : Gets g P) (k : ∀ a, P a → Gets (fun n => f n a) Q) : Gets (fun n => (g n).bind (f n)) Q := by
  obtain ⟨a, ha, hp⟩ := h
  obtain ⟨r, hr, hq⟩ := k a hp
  exact ⟨r, Ev.bind ha hr, hq⟩
theorem Gets.bindE {α β : Type} {g : Nat → Option α} {f : Nat → α → Option β} {a : α} {Q : β → Prop} (h : Ev g a) (k : Gets (fun n => f n a) Q) : Gets (fun n => (g n).bind (f n)) Q := by
  obtain ⟨r, hr, hq⟩ := k
  exact ⟨r, Ev.bind h hr, hq⟩
theorem Gets.mono {α : Type} {f : Nat → Option α} {P Q : α → Prop} (h : Gets f P) (k : ∀ a, P a → Q a) : Gets f Q := by
  obtain ⟨r, hr, hp⟩ := h
  exact ⟨r, hr, k r hp⟩
theorem Gets.rounds {α : Type} {f : Nat → Option α} {r : α} (h : Gets f (· = r)) : ∃ k, f k = some r := by
  obtain ⟨a, ha, rfl⟩ := h
  exact ha.rounds
theorem Gets.ev {α : Type} {f : Nat → Option α} {r : α} (h : Gets f (· = r)) : Ev f r := by
  obtain ⟨a, ha, rfl⟩ := h
  exact ha
theorem Ev.gets {α : Type} {f : Nat → Option α} {r : α} {Q : α → Prop} (h : Ev f r) (hq : Q r) : Gets f Q := ⟨r, h, hq⟩
theorem Gets.same {α : Type} {o : Option α} {Q : α → Prop} {r : α} (h : o = some r) (hq : Q r) : Gets (fun _ => o) Q := by
  subst h; exact Gets.ret hq
theorem wrapId {x : Int} (h0 : -9223372036854775808 ≤ x) (h1 : x ≤ 9223372036854775807) : wrap64 x = x := by
  unfold wrap64; omega
theorem i64_bd {n : Int} (h : (Lit.int .i64 n).wf = true) : -9223372036854775808 ≤ n ∧ n ≤ 9223372036854775807 := by
  have hm : IntKind.i64.min = -9223372036854775808 := rfl
  simp [Lit.wf, hm] at h
  exact h
theorem boolEq {a b : Bool} {P Q : Prop} (ha : a = true ↔ P) (hb : b = true ↔ Q) (h : P ↔ Q) : a = b := by
  rw [Bool.eq_iff_iff, ha, hb, h]
theorem tmod_nn {a b : Int} (h : 0 ≤ a) : Int.tmod a b = a % b := Int.tmod_eq_emod_of_nonneg h
theorem tdiv_nn {a b : Int} (h : 0 ≤ a) : Int.tdiv a b = a / b := Int.tdiv_eq_ediv_of_nonneg h

/-! ### rows of numbers -/
theorem rd_get {l : List Int} {i : Int} (h : i.toNat < l.length) : rd l i = l[i.toNat] := by
  unfold rd; rw [List.getD_eq_getElem?_getD, List.getElem?_eq_getElem h]; rfl
theorem fill_step {α : Type} (l : List α) (d : α) (i : Nat) (h : i < l.length) : (l.take i ++ List.replicate (l.length - i) d).set i l[i] = l.take (i + 1) ++ List.replicate (l.length - (i + 1)) d := by
  have e : List.replicate (l.length - i) d = d :: List.replicate (l.length - (i + 1)) d := by
    rw [show l.length - i = (l.length - (i + 1)) + 1 by omega]; rfl
  rw [e, List.set_append_right _ _ (by rw [List.length_take]; omega), List.length_take, show i - min i l.length = 0 by omega, List.set_cons_zero, List.take_succ_eq_append_getElem h, List.append_assoc]
  rfl
theorem drop_at {α : Type} (l : List α) (i : Nat) (h : i < l.length) : l.drop i = l[i] :: l.drop (i + 1) := List.drop_eq_getElem_cons h
def marks (k : Int) (n : Nat) : List Int := (List.range n).map (fun (i : Nat) => k + (i : Int))
theorem marks_length (k : Int) (n : Nat) : (marks k n).length = n := by simp [marks]
theorem marks_get (k : Int) (n i : Nat) (h : i < n) : (marks k n)[i]'(by rw [marks_length]; exact h) = k + i := by simp [marks]

/-! ### texts as lists of numbers -/
theorem bytesOf_inj {a b : ByteArray} (h : bytesOf a = bytesOf b) : a = b := by
  have hl : a.data.toList = b.data.toList := by
    unfold bytesOf at h
    exact List.map_inj_right (fun x y hxy => UInt8.toNat_inj.1 (by exact_mod_cast hxy)) |>.1 h
  have hd : a.data = b.data := Array.toList_inj.1 hl
  cases a; cases b; cases hd; rfl
theorem toList_iff (a b : ByteArray) : a.toList = b.toList ↔ a = b := by
  rw [Lib.toList_data, Lib.toList_data]
  exact ⟨fun h => bytesOf_inj (by unfold bytesOf; rw [h]), fun h => by rw [h]⟩
theorem bytesOf_range {s : ByteArray} {x : Int} (h : x ∈ bytesOf s) : 0 ≤ x ∧ x < 256 := by
  unfold bytesOf at h
  obtain ⟨b, _, rfl⟩ := List.mem_map.1 h
  have := b.toNat_lt
  omega
theorem bytesOf_str {xs : List Int} (h : ∀ x ∈ xs, 0 ≤ x ∧ x < 256) : bytesOf (strOfNums xs) = xs := by
  unfold bytesOf
  rw [strOfNums_data, List.map_map]
  conv => rhs; rw [← List.map_id xs]
  refine List.map_congr_left (fun x hx => ?_)
  have := h x hx
  simp only [Function.comp, UInt8.toNat_ofNat', id]
  omega
theorem str_bytesOf (s : ByteArray) : strOfNums (bytesOf s) = s := bytesOf_inj (bytesOf_str (fun _ => bytesOf_range))
theorem bytesOf_extract (s : ByteArray) (a b : Nat) : bytesOf (s.extract a b) = ((bytesOf s).drop a).take (b - a) := by
  unfold bytesOf
  rw [Lib.extract_data, List.map_take, List.map_drop]
theorem bytesOf_app (a b : ByteArray) : bytesOf (a ++ b) = bytesOf a ++ bytesOf b := by
  unfold bytesOf
  rw [← List.map_append]
  congr 1
  first | done | simp
theorem bt_getD (s : ByteArray) (i : Int) : bt s i = (bytesOf s).getD i.toNat 0 := (rd_bytesOf s i).symm
theorem bytesOf_empty : bytesOf (⟨#[]⟩ : ByteArray) = [] := rfl
theorem size_eq (s : ByteArray) : s.size = (bytesOf s).length := (bytesOf_length s).symm
theorem size_app (a b : ByteArray) : (a ++ b).size = a.size + b.size := by simp

theorem rdS_get {l : List ByteArray} {i : Int} (h : i.toNat < l.length) : rdOf ByteArray.empty l i = l[i.toNat] := by
  unfold rdOf; rw [List.getD_eq_getElem?_getD, List.getElem?_eq_getElem h]; rfl
def shortL (l : List ByteArray) : Bool := l.all (fun s => decide ((s.size : Int) ≤ 60))
theorem shortL_iff (l : List ByteArray) : shortL l = true ↔ ∀ s ∈ l, s.size ≤ 60 := by
  unfold shortL
  rw [List.all_eq_true]
  exact ⟨fun h s hs => by have := of_decide_eq_true (h s hs); omega, fun h s hs => decide_eq_true (by have := h s hs; omega)⟩
theorem shortL_cons (s : ByteArray) (l : List ByteArray) : shortL (s :: l) = (decide ((s.size : Int) ≤ 60) && shortL l) := rfl

def endP (nx ac : Int) (q : List ByteArray) (got : Int) (out : List ByteArray) : Prop := (0 ≤ ac ∧ ac ≤ 1000) ∧ (ac ≤ nx ∧ nx ≤ ac + 4) ∧ (nx - ac ≤ (q.length : Int) ∧ (q.length : Int) ≤ 30) ∧ (0 ≤ got ∧ got ≤ 1000) ∧ (out.length : Int) = got ∧ shortL q = true ∧ shortL out = true

instance endDec (nx ac : Int) (q : List ByteArray) (got : Int) (out : List ByteArray) : Decidable (endP nx ac q got out) := by unfold endP; infer_instance
def offerT (nx ac : Int) (q : List ByteArray) (got : Int) (out : List ByteArray) (t : ByteArray) : Int × Int × List ByteArray × Int × List ByteArray × Bool :=
  if t.size ≤ 60 ∧ q.length < 30 ∧ ac + q.length < 1000 ∧ endP nx ac q got out then (nx, ac, q ++ [t], got, out, true) else (0, 0, [], 0, [], false)
theorem offer_len (nx ac : Int) (q : List ByteArray) (got : Int) (out : List ByteArray) (t : ByteArray) : (offerT nx ac q got out t).2.2.1.length ≤ 30 ∧ (offerT nx ac q got out t).2.2.2.2.1.length ≤ 1000 := by
  unfold offerT
  split
  · rename_i h
    obtain ⟨_, h2, _, h⟩ := h
    unfold endP at h
    simp only [List.length_append, List.length_cons, List.length_nil]
    omega
  · simp

def recvI (nx ac : Int) (q : List ByteArray) (got : Int) (out : List ByteArray) (num : Int) (t : ByteArray) : Int × Int × List ByteArray × Int × List ByteArray × Bool :=
  if num = got + 1 ∧ got < 1000 then (nx, ac, q, got + 1, out ++ [t], true) else (nx, ac, q, got, out, false)
def recvT (nx ac : Int) (q : List ByteArray) (got : Int) (out : List ByteArray) (num ack : Int) (t : ByteArray) : Int × Int × List ByteArray × Int × List ByteArray × Bool :=
  if num < 0 ∨ t.size > 60 ∨ ¬ endP nx ac q got out then (nx, ac, q, got, out, false)
  else if ack > ac ∧ ack ≤ nx then recvI nx ack (q.drop (ack - ac).toNat) got out num t else recvI nx ac q got out num t

theorem areShort_l0 (l : List ByteArray) (hl : l.length ≤ 35184372088832) (d : Nat) : ∀ i : Nat, l.length - i = d → i ≤ l.length → Gets (fun k => impl_areShort.l0 k l (l.length : Int) (i : Int)) (· = shortL (l.drop i)) := by
  induction d with
  | zero =>
    intro i hd hi
    refine Gets.step (fun k => impl_areShort.l0.eq_2 ..) (Gets.neg (by omega) (Gets.ret ?_))
    rw [List.drop_of_length_le (by omega)]; rfl
  | succ d ih =>
    intro i hd hi
    refine Gets.step (fun k => impl_areShort.l0.eq_2 ..) (Gets.pos (by omega) (Gets.pos (by omega) (Gets.pos (by omega) ?_)))
    have e : rdOf ByteArray.empty l (i : Int) = l[i] := rdS_get (by omega)
    simp only [e]
    rw [wrapId (by omega) (by omega), drop_at l i (by omega), shortL_cons]
    refine Gets.ite (fun h => Gets.ret (by rw [decide_eq_false (by omega)]; rfl)) (fun h => ?_)
    rw [show ((i : Int) + 1) = ((i + 1 : Nat) : Int) by omega]
    refine (ih (i + 1) (by omega) (by omega)).mono (fun r hr => ?_)
    rw [hr, decide_eq_true (by omega)]; rfl
theorem areShort (l : List ByteArray) (hl : l.length ≤ 35184372088832) : Gets (fun k => impl_areShort.f k l) (· = shortL l) := by
  unfold impl_areShort.f
  exact areShort_l0 l hl l.length 0 (by omega) (by omega)

theorem inR (x a b : Int) : impl_inRange.f x a b = some (decide (a ≤ x ∧ x ≤ b)) := by
  unfold impl_inRange.f
  by_cases h : x ≥ a
  · rw [if_pos h]; simp [show a ≤ x from h]
  · rw [if_neg h]; simp [show ¬ a ≤ x from h]

theorem implEndOk (nx ac : Int) (q : List ByteArray) (got : Int) (out : List ByteArray) (hn : -9223372036854775808 ≤ nx ∧ nx ≤ 9223372036854775807) (hq : q.length ≤ 35184372088832) (ho : out.length ≤ 35184372088832) : Gets (fun k => impl_EndOk.f k nx ac q got out) (fun r => r = true ↔ endP nx ac q got out) := by
  have no : ∀ c, c = true → ¬ endP nx ac q got out → Gets (fun k => impl_EndOk.j0 k c nx ac q got out) (fun r => r = true ↔ endP nx ac q got out) := fun c hc h =>
    Gets.step (fun k => impl_EndOk.j0.eq_2 ..) (Gets.pos hc (Gets.ret (by simp [h])))
  have nf : ¬ endP nx ac q got out → Gets (fun _ => some false) (fun r => r = true ↔ endP nx ac q got out) := fun h => Gets.ret (by simp [h])
  unfold impl_EndOk.f
  simp only [inR, Option.bind_some, decide_eq_true_eq]
  refine Gets.ite (fun h1 => ?_) (fun h1 => no _ rfl (fun h => h1 h.1))
  rw [wrapId (x := ac + 4) (by omega) (by omega)]
  refine Gets.ite (fun h2 => ?_) (fun h2 => no _ rfl (fun h => h2 h.2.1))
  rw [wrapId (x := nx - ac) (by omega) (by omega)]
  by_cases h3 : nx - ac ≤ (q.length : Int) ∧ (q.length : Int) ≤ 30
  · refine Gets.step (fun k => impl_EndOk.j0.eq_2 ..) (Gets.neg (by simp only [decide_eq_true h3]; simp) ?_)
    simp only [inR, Option.bind_some, decide_eq_true_eq]
    refine Gets.ite (fun h4 => Gets.ite (fun h5 => ?_) (fun h5 => nf (fun h => h5 h.2.2.2.2.1))) (fun h4 => nf (fun h => h4 h.2.2.2.1))
    refine Gets.bindE (areShort q hq).ev (Gets.ite (fun h6 => ?_) (fun h6 => nf (fun h => h6 h.2.2.2.2.2.1)))
    exact Gets.bindE (areShort out ho).ev (Gets.ret ⟨fun h7 => ⟨h1, h2, h3, h4, h5, h6, h7⟩, fun h => h.2.2.2.2.2.2⟩)
  · exact no _ (by simp only [decide_eq_false h3]; rfl) (fun h => h3 h.2.2.1)

theorem implCopyEnd (a b : Int) (q : List ByteArray) (c : Int) (o : List ByteArray) (hq : q.length ≤ 1048576) (ho : o.length ≤ 1048576) : impl_copyEnd.f a b q c o = some (a, b, q, c, o) := by
  unfold impl_copyEnd.f slices_Clone_string_string.f
  simp only [Option.bind_some, List.length_nil, List.nil_append]
  rw [if_pos (by omega), if_pos (by omega)]
  rfl
theorem implRecv_j1 (nx ac : Int) (q : List ByteArray) (got : Int) (out : List ByteArray) (num ack : Int) (t : ByteArray) (h : endP nx ac q got out) (b : Bool) (hb : b = true ↔ (ack > ac ∧ ack ≤ nx)) :
    Gets (fun k => impl_Receive.j1 k b nx ac q got out num ack t nx ac q got out) (· = if ack > ac ∧ ack ≤ nx then recvI nx ack (q.drop (ack - ac).toNat) got out num t else recvI nx ac q got out num t) := by
  obtain ⟨h1, h2, h3, h4, h5, _⟩ := h
  have fin : ∀ (a' : Int) (q' : List ByteArray), Gets (fun _ => if num = wrap64 (got + 1) then (if got ≥ 1000 then (some (nx, a', q', got, out, false)) else (if out.length < 8796093022208 then (some (nx, a', q', wrap64 (got + 1), (out ++ [t]), true)) else (none))) else (some (nx, a', q', got, out, false))) (· = recvI nx a' q' got out num t) := by
    intro a' q'
    rw [wrapId (x := got + 1) (by omega) (by omega)]
    unfold recvI
    refine Gets.ite (fun hn => Gets.ite (fun hg => Gets.ret ?_) (fun hg => Gets.pos (by omega) (Gets.ret ?_))) (fun hn => Gets.ret ?_)
    · rw [if_neg (by omega)]
    · rw [if_pos ⟨hn, by omega⟩]
    · rw [if_neg (fun e => hn e.1)]
  refine Gets.step (fun k => impl_Receive.j1.eq_2 ..) (Gets.ite (fun h => ?_) (fun h => ?_))
  · have hk := hb.1 h
    rw [if_pos hk, wrapId (x := ack - ac) (by omega) (by omega)]
    refine Gets.pos (by omega) (Gets.pos (by omega) ?_)
    simp only [Option.bind_some]
    exact fin _ _
  · rw [if_neg (fun e => h (hb.2 e))]
    exact fin _ _
theorem implRecv (nx ac : Int) (q : List ByteArray) (got : Int) (out : List ByteArray) (num ack : Int) (t : ByteArray) (hn : -9223372036854775808 ≤ nx ∧ nx ≤ 9223372036854775807) (hq : q.length ≤ 1048576) (ho : out.length ≤ 1048576) :
    Gets (fun k => impl_Receive.f k nx ac q got out num ack t) (· = recvT nx ac q got out num ack t) := by
  unfold impl_Receive.f recvT
  rw [implCopyEnd nx ac q got out hq ho]
  simp only [Option.bind_some]
  have no : ∀ b, b = true → Gets (fun k => impl_Receive.j0 k b nx ac q got out num ack t nx ac q got out) (· = (nx, ac, q, got, out, false)) := fun b hb => Gets.step (fun k => impl_Receive.j0.eq_2 ..) (Gets.pos hb (Gets.ret rfl))
  refine Gets.ite (fun h => ?_) (fun h1 => Gets.ite (fun h => ?_) (fun h2 => ?_))
  · rw [if_pos (.inl h)]; exact no _ rfl
  · rw [if_pos (.inr (.inl (by omega)))]; exact no _ rfl
  · refine Gets.bind (implEndOk nx ac q got out hn (by omega) (by omega)) (fun r hr => ?_)
    by_cases hE : endP nx ac q got out
    · rw [if_neg (by rintro (h | h | h); exact h1 h; omega; exact h hE), hr.2 hE]
      refine Gets.step (fun k => impl_Receive.j0.eq_2 ..) (Gets.neg (by simp) (Gets.ite (fun h => ?_) (fun h => ?_)))
      · exact implRecv_j1 nx ac q got out num ack t hE _ ⟨fun h3 => ⟨h, of_decide_eq_true h3⟩, fun h3 => decide_eq_true h3.2⟩
      · exact implRecv_j1 nx ac q got out num ack t hE _ ⟨fun h3 => by simp at h3, fun h3 => absurd h3.1 h⟩
    · rw [if_pos (.inr (.inr hE))]
      have hr0 : r = false := by
        cases r with
        | false => rfl
        | true => exact absurd (hr.1 rfl) hE
      exact no _ (by rw [hr0]; rfl)

theorem inS (x a b : Int) : spec_l01In.f x a b = some (decide (a ≤ x ∧ x ≤ b)) := by
  unfold spec_l01In.f
  by_cases h : x ≥ a
  · rw [if_pos h]; simp [show a ≤ x from h]
  · rw [if_neg h]; simp [show ¬ a ≤ x from h]

theorem specEnd_l1 (a b : Int) (q : List ByteArray) (c : Int) (l : List ByteArray) (hl : l.length ≤ 35184372088832) (d : Nat) : ∀ i : Nat, l.length - i = d → i ≤ l.length → Gets (fun k => spec_EndOk.l1 k (i : Int) a b q c l) (· = shortL (l.drop i)) := by
  induction d with
  | zero =>
    intro i hd hi
    refine Gets.step (fun k => spec_EndOk.l1.eq_2 ..) (Gets.neg (by omega) (Gets.ret ?_))
    rw [List.drop_of_length_le (by omega)]; rfl
  | succ d ih =>
    intro i hd hi
    refine Gets.step (fun k => spec_EndOk.l1.eq_2 ..) (Gets.pos (by omega) (Gets.pos (by omega) ?_))
    have e : rdOf ByteArray.empty l (i : Int) = l[i] := rdS_get (by omega)
    simp only [e]
    rw [wrapId (by omega) (by omega), drop_at l i (by omega), shortL_cons]
    refine Gets.ite (fun h => Gets.ret (by rw [decide_eq_false (by omega)]; rfl)) (fun h => ?_)
    rw [show ((i : Int) + 1) = ((i + 1 : Nat) : Int) by omega]
    refine (ih (i + 1) (by omega) (by omega)).mono (fun r hr => ?_)
    rw [hr, decide_eq_true (by omega)]; rfl
theorem specEnd_l0 (a b : Int) (l : List ByteArray) (c : Int) (o : List ByteArray) (hl : l.length ≤ 35184372088832) (ho : o.length ≤ 35184372088832) (d : Nat) : ∀ i : Nat, l.length - i = d → i ≤ l.length → Gets (fun k => spec_EndOk.l0 k (i : Int) a b l c o) (· = (shortL (l.drop i) && shortL o)) := by
  induction d with
  | zero =>
    intro i hd hi
    refine Gets.step (fun k => spec_EndOk.l0.eq_2 ..) (Gets.neg (by omega) ?_)
    rw [List.drop_of_length_le (by omega)]
    exact (specEnd_l1 a b l c o ho o.length 0 (by omega) (by omega)).mono (fun r hr => by rw [hr]; rfl)
  | succ d ih =>
    intro i hd hi
    refine Gets.step (fun k => spec_EndOk.l0.eq_2 ..) (Gets.pos (by omega) (Gets.pos (by omega) ?_))
    have e : rdOf ByteArray.empty l (i : Int) = l[i] := rdS_get (by omega)
    simp only [e]
    rw [wrapId (by omega) (by omega), drop_at l i (by omega), shortL_cons]
    refine Gets.ite (fun h => Gets.ret (by rw [decide_eq_false (by omega)]; rfl)) (fun h => ?_)
    rw [show ((i : Int) + 1) = ((i + 1 : Nat) : Int) by omega]
    refine (ih (i + 1) (by omega) (by omega)).mono (fun r hr => ?_)
    rw [hr, decide_eq_true (show (l[i].size : Int) ≤ 60 by omega)]; rfl
theorem specEndOk (nx ac : Int) (q : List ByteArray) (got : Int) (out : List ByteArray) (hn : -9223372036854775808 ≤ nx ∧ nx ≤ 9223372036854775807) (hq : q.length ≤ 35184372088832) (ho : out.length ≤ 35184372088832) : Gets (fun k => spec_EndOk.f k nx ac q got out) (fun r => r = true ↔ endP nx ac q got out) := by
  have no : ∀ c, c = true → ¬ endP nx ac q got out → Gets (fun k => spec_EndOk.j0 k c nx ac q got out) (fun r => r = true ↔ endP nx ac q got out) := fun c hc h =>
    Gets.step (fun k => spec_EndOk.j0.eq_2 ..) (Gets.pos hc (Gets.ret (by simp [h])))
  unfold spec_EndOk.f
  simp only [inS, Option.bind_some, decide_eq_true_eq]
  refine Gets.ite (fun h1 => ?_) (fun h1 => no _ rfl (fun h => h1 h.1))
  rw [wrapId (x := ac + 4) (by omega) (by omega)]
  refine Gets.ite (fun h2 => ?_) (fun h2 => no _ rfl (fun h => h2 h.2.1))
  rw [wrapId (x := nx - ac) (by omega) (by omega)]
  refine Gets.ite (fun h3 => no _ rfl (fun h => by have := h.2.2.1; omega)) (fun h3 => Gets.ite (fun h4 => no _ rfl (fun h => by have := h.2.2.1; omega)) (fun h4 => Gets.ite (fun h5 => ?_) (fun h5 => no _ rfl (fun h => h5 h.2.2.2.1))))
  by_cases h6 : (out.length : Int) = got
  · refine Gets.step (fun k => spec_EndOk.j0.eq_2 ..) (Gets.neg (by simp [h6]) ?_)
    refine (specEnd_l0 nx ac q got out hq ho q.length 0 (by omega) (by omega)).mono (fun r hr => ?_)
    rw [hr]
    simp only [List.drop_zero, Bool.and_eq_true]
    exact ⟨fun h7 => ⟨h1, h2, ⟨by omega, by omega⟩, h5, h6, h7.1, h7.2⟩, fun h => h.2.2.2.2.2⟩
  · exact no _ (by simp [h6]) (fun h => h6 h.2.2.2.2.1)

theorem specCopyEnd (a b : Int) (q : List ByteArray) (c : Int) (o : List ByteArray) (hq : q.length ≤ 1048576) (ho : o.length ≤ 1048576) : spec_l06Copy.f a b q c o = some (a, b, q, c, o) := by
  unfold spec_l06Copy.f
  simp only [Option.bind_some, List.length_nil, List.nil_append]
  rw [if_pos (by omega), if_pos (by omega)]
theorem specOffer (nx ac : Int) (q : List ByteArray) (got : Int) (out : List ByteArray) (t : ByteArray) (hn : -9223372036854775808 ≤ nx ∧ nx ≤ 9223372036854775807) (hq : q.length ≤ 1048576) (ho : out.length ≤ 1048576) : Gets (fun k => spec_Offer.f k nx ac q got out t) (· = offerT nx ac q got out t) := by
  unfold spec_Offer.f
  have hno : ¬ (t.size ≤ 60 ∧ q.length < 30 ∧ ac + q.length < 1000 ∧ endP nx ac q got out) → offerT nx ac q got out t = (0, 0, [], 0, [], false) := fun h => by unfold offerT; rw [if_neg h]
  refine Gets.bind (specEndOk nx ac q got out hn (by omega) (by omega)) (fun r hr => Gets.ite (fun h4 => ?_) (fun h4 => Gets.ret (hno (fun h => h4 (hr.2 h.2.2.2))).symm))
  have he := hr.1 h4
  have := he.1
  rw [wrapId (by omega) (by omega)]
  refine Gets.ite (fun h1 => Gets.ret (hno (by omega)).symm) (fun h1 => Gets.ite (fun h2 => Gets.ret (hno (by omega)).symm) (fun h2 => Gets.ite (fun h3 => Gets.ret (hno (by omega)).symm) (fun h3 => ?_)))
  rw [specCopyEnd _ _ _ _ _ hq ho]
  simp only [Option.bind_some]
  refine Gets.pos (by omega) (Gets.ret ?_)
  unfold offerT
  rw [if_pos ⟨by omega, by omega, by omega, he⟩]

theorem specRecv_j1 (nx ac : Int) (q : List ByteArray) (got : Int) (out : List ByteArray) (num ack : Int) (t : ByteArray) (h : endP nx ac q got out) (b : Bool) (hb : b = true ↔ (ack > ac ∧ ack ≤ nx)) :
    Gets (fun k => spec_Receive.j1 k b num ack t nx ac q got out) (· = if ack > ac ∧ ack ≤ nx then recvI nx ack (q.drop (ack - ac).toNat) got out num t else recvI nx ac q got out num t) := by
  obtain ⟨h1, h2, h3, h4, h5, _⟩ := h
  have fin : ∀ (a' : Int) (q' : List ByteArray), Gets (fun _ => if num = wrap64 (got + 1) then (if got ≥ 1000 then (some (nx, a', q', got, out, false)) else (if out.length < 8796093022208 then (some (nx, a', q', wrap64 (got + 1), (out ++ [t]), true)) else (none))) else (some (nx, a', q', got, out, false))) (· = recvI nx a' q' got out num t) := by
    intro a' q'
    rw [wrapId (x := got + 1) (by omega) (by omega)]
    unfold recvI
    refine Gets.ite (fun hn => Gets.ite (fun hg => Gets.ret ?_) (fun hg => Gets.pos (by omega) (Gets.ret ?_))) (fun hn => Gets.ret ?_)
    · rw [if_neg (by omega)]
    · rw [if_pos ⟨hn, by omega⟩]
    · rw [if_neg (fun e => hn e.1)]
  refine Gets.step (fun k => spec_Receive.j1.eq_2 ..) (Gets.ite (fun h => ?_) (fun h => ?_))
  · have hk := hb.1 h
    rw [if_pos hk, wrapId (x := ack - ac) (by omega) (by omega)]
    simp only [Option.bind_some, List.length_nil, List.nil_append]
    refine Gets.pos (by omega) (Gets.pos (by omega) (Gets.pos (by rw [List.length_drop]; omega) ?_))
    exact fin _ _
  · rw [if_neg (fun e => h (hb.2 e))]
    exact fin _ _
theorem specRecv (nx ac : Int) (q : List ByteArray) (got : Int) (out : List ByteArray) (num ack : Int) (t : ByteArray) (hn : -9223372036854775808 ≤ nx ∧ nx ≤ 9223372036854775807) (hq : q.length ≤ 1048576) (ho : out.length ≤ 1048576) :
    Gets (fun k => spec_Receive.f k nx ac q got out num ack t) (· = recvT nx ac q got out num ack t) := by
  unfold spec_Receive.f recvT
  rw [specCopyEnd nx ac q got out hq ho]
  simp only [Option.bind_some]
  have no : ∀ b, b = true → Gets (fun k => spec_Receive.j0 k b num ack t nx ac q got out) (· = (nx, ac, q, got, out, false)) := fun b hb => Gets.step (fun k => spec_Receive.j0.eq_2 ..) (Gets.pos hb (Gets.ret rfl))
  refine Gets.bind (specEndOk nx ac q got out hn (by omega) (by omega)) (fun r hr => Gets.ite (fun hE => ?_) (fun hE => ?_))
  · have hE := hr.1 hE
    refine Gets.ite (fun h => ?_) (fun h1 => ?_)
    · rw [if_pos (.inl h)]; exact no _ rfl
    · by_cases h2 : (t.size : Int) > 60
      · rw [if_pos (.inr (.inl (by omega)))]; exact no _ (decide_eq_true h2)
      · rw [if_neg (by rintro (h | h | h); exact h1 h; omega; exact h hE)]
        refine Gets.step (fun k => spec_Receive.j0.eq_2 ..) (Gets.neg (by simpa using h2) (Gets.ite (fun h => ?_) (fun h => ?_)))
        · exact specRecv_j1 nx ac q got out num ack t hE _ ⟨fun h3 => ⟨h, of_decide_eq_true h3⟩, fun h3 => decide_eq_true h3.2⟩
        · exact specRecv_j1 nx ac q got out num ack t hE _ ⟨fun h3 => by simp at h3, fun h3 => absurd h3.1 h⟩
  · rw [if_pos (.inr (.inr (fun h => hE (hr.2 h))))]
    exact no _ rfl

theorem rdP_get {l : List S36} {i : Int} (h : i.toNat < l.length) : rd_T36 l i = l[i.toNat] := by
  unfold rd_T36; rw [List.getD_eq_getElem?_getD, List.getElem?_eq_getElem h]; rfl

def elP (ac : Int) (q : List ByteArray) (got : Int) (fr : Int) (i : Nat) : S36 := ⟨fr + i, got, rdOf ByteArray.empty q (fr + i - ac - 1)⟩
def againT (nx ac : Int) (q : List ByteArray) (got : Int) (out : List ByteArray) : List S36 :=
  if endP nx ac q got out then (if nx = ac then [⟨0, got, (⟨#[]⟩ : ByteArray)⟩] else (List.range (nx - ac).toNat).map (elP ac q got (ac + 1))) else []
theorem againT_no {nx ac : Int} {q : List ByteArray} {got : Int} {out : List ByteArray} (h : ¬ endP nx ac q got out) : againT nx ac q got out = [] := by unfold againT; rw [if_neg h]
theorem againT_eq {nx ac : Int} {q : List ByteArray} {got : Int} {out : List ByteArray} (h : endP nx ac q got out) (e : nx = ac) : againT nx ac q got out = [⟨0, got, (⟨#[]⟩ : ByteArray)⟩] := by unfold againT; rw [if_pos h, if_pos e]
theorem againT_ne {nx ac : Int} {q : List ByteArray} {got : Int} {out : List ByteArray} (h : endP nx ac q got out) (e : ¬ nx = ac) : againT nx ac q got out = (List.range (nx - ac).toNat).map (elP ac q got (ac + 1)) := by unfold againT; rw [if_pos h, if_neg e]
theorem againT_len (nx ac : Int) (q : List ByteArray) (got : Int) (out : List ByteArray) : (againT nx ac q got out).length ≤ 4 := by
  by_cases h : endP nx ac q got out
  · by_cases e : nx = ac
    · rw [againT_eq h e]; simp
    · rw [againT_ne h e]
      have := h.2.1
      simp; omega
  · rw [againT_no h]; simp

def upNew (ac : Int) (q : List ByteArray) : Int := ac + (if (q.length : Int) ≤ 4 then (q.length : Int) else 4)
def newT (nx ac : Int) (q : List ByteArray) (got : Int) (out : List ByteArray) : Int × Int × List ByteArray × Int × List ByteArray × List S36 :=
  if endP nx ac q got out then (upNew ac q, ac, q, got, out, (List.range (upNew ac q - nx).toNat).map (elP ac q got (nx + 1))) else (nx, ac, q, got, out, [])
theorem newT_no {nx ac : Int} {q : List ByteArray} {got : Int} {out : List ByteArray} (h : ¬ endP nx ac q got out) : newT nx ac q got out = (nx, ac, q, got, out, []) := by unfold newT; rw [if_neg h]
theorem newT_yes {nx ac : Int} {q : List ByteArray} {got : Int} {out : List ByteArray} (h : endP nx ac q got out) : newT nx ac q got out = (upNew ac q, ac, q, got, out, (List.range (upNew ac q - nx).toNat).map (elP ac q got (nx + 1))) := by unfold newT; rw [if_pos h]
theorem upNew_bd {nx ac : Int} {q : List ByteArray} {got : Int} {out : List ByteArray} (h : endP nx ac q got out) : nx ≤ upNew ac q ∧ upNew ac q ≤ ac + 4 ∧ upNew ac q ≤ ac + q.length := by
  have h2 := h.2.1
  have h3 := h.2.2.1
  unfold upNew
  split <;> omega
theorem newT_len (nx ac : Int) (q : List ByteArray) (got : Int) (out : List ByteArray) : (newT nx ac q got out).2.2.2.2.2.length ≤ 4 ∧ (newT nx ac q got out).2.2.1 = q ∧ (newT nx ac q got out).2.2.2.2.1 = out := by
  by_cases h : endP nx ac q got out
  · rw [newT_yes h]
    have := upNew_bd h
    have := h.2.1
    exact ⟨by simp; omega, rfl, rfl⟩
  · rw [newT_no h]; simp

theorem specNew_l0 (nx ac : Int) (q : List ByteArray) (got : Int) (out : List ByteArray) (hn : -9223372036854775808 ≤ nx ∧ nx ≤ 9223372036854775807) (hq : q.length ≤ 1048576) (ho : out.length ≤ 1048576) (he : endP nx ac q got out) (d : Nat) : ∀ i : Nat, (upNew ac q - nx).toNat - i = d → i ≤ (upNew ac q - nx).toNat → Gets (fun k => spec_SendNew.l0 k ((List.range i).map (elP ac q got (nx + 1))) nx ac q got out (nx + i) ac q got out) (· = newT nx ac q got out) := by
  have h1 := he.1
  have h2 := he.2.1
  have h3 := he.2.2.1
  have hb := upNew_bd he
  have hu : upNew ac q = ac + (q.length : Int) ∨ upNew ac q = ac + 4 := by unfold upNew; split <;> simp
  induction d with
  | zero =>
    intro i hd hi
    refine Gets.step (fun k => spec_SendNew.l0.eq_2 ..) (Gets.bind (specEndOk nx ac q got out hn (by omega) (by omega)) (fun t ht => Gets.pos (ht.2 he) ?_))
    rw [wrapId (x := ac + 4) (by omega) (by omega), wrapId (x := nx + (i : Int) - ac) (by omega) (by omega)]
    have e : (upNew ac q - nx).toNat = i := by omega
    have fin : (nx + (i : Int), ac, q, got, out, (List.range i).map (elP ac q got (nx + 1))) = newT nx ac q got out := by rw [newT_yes he, e, show nx + (i : Int) = upNew ac q by omega]
    refine Gets.ite (fun h => Gets.neg (by omega) (Gets.ret fin)) (fun h => Gets.ret fin)
  | succ d ih =>
    intro i hd hi
    refine Gets.step (fun k => spec_SendNew.l0.eq_2 ..) (Gets.bind (specEndOk nx ac q got out hn (by omega) (by omega)) (fun t ht => Gets.pos (ht.2 he) ?_))
    rw [wrapId (x := ac + 4) (by omega) (by omega), wrapId (x := nx + (i : Int) - ac) (by omega) (by omega), wrapId (x := nx + (i : Int) + 1) (by omega) (by omega)]
    refine Gets.pos (by omega) (Gets.pos (by omega) (Gets.pos (by omega) (Gets.pos (by simp; omega) ?_)))
    have e : ((⟨nx + (i : Int) + 1, got, rdOf ByteArray.empty q (nx + (i : Int) - ac)⟩ : S36)) = elP ac q got (nx + 1) i := by
      unfold elP
      rw [show nx + 1 + (i : Int) - ac - 1 = nx + (i : Int) - ac by omega, show nx + 1 + (i : Int) = nx + (i : Int) + 1 by omega]
    rw [e, show nx + (i : Int) + 1 = nx + ((i + 1 : Nat) : Int) by omega]
    have h := ih (i + 1) (by omega) (by omega)
    rw [List.range_succ, List.map_append] at h
    exact h
theorem specNew (nx ac : Int) (q : List ByteArray) (got : Int) (out : List ByteArray) (hn : -9223372036854775808 ≤ nx ∧ nx ≤ 9223372036854775807) (hq : q.length ≤ 1048576) (ho : out.length ≤ 1048576) : Gets (fun k => spec_SendNew.f k nx ac q got out) (· = newT nx ac q got out) := by
  unfold spec_SendNew.f spec_l06Copy.f
  simp only [Option.bind_some, List.length_nil, List.nil_append]
  rw [if_pos (by omega), if_pos (by omega)]
  simp only [Option.bind_some]
  by_cases he : endP nx ac q got out
  · have := specNew_l0 nx ac q got out hn hq ho he _ 0 rfl (by omega)
    simpa using this
  · rw [newT_no he]
    exact Gets.step (fun k => spec_SendNew.l0.eq_2 ..) (Gets.bind (specEndOk nx ac q got out hn (by omega) (by omega)) (fun t ht => Gets.neg (fun h => he (ht.1 h)) (Gets.ret rfl)))

/-! ### the reader of draws: it always answers -/
theorem and_i64 (x : Int) (m : Nat) (hm : m < 9223372036854775808) : 0 ≤ Go.bits .and .i64 x (m : Int) ∧ Go.bits .and .i64 x (m : Int) ≤ (m : Int) := by
  have h1 : (BitVec.ofInt IntKind.i64.bits x &&& BitVec.ofInt IntKind.i64.bits (m : Int)).toNat ≤ m := by
    rw [BitVec.toNat_and]
    refine Nat.le_trans Nat.and_le_right ?_
    rw [BitVec.ofInt_natCast, BitVec.toNat_ofNat]
    exact Nat.mod_le _ _
  unfold Go.bits
  simp only [IntKind.wrap_i64]
  omega
theorem and255 (x : Int) : 0 ≤ Go.bits .and .i64 x 255 ∧ Go.bits .and .i64 x 255 < 256 := by
  have h := and_i64 x 255 (by decide)
  rw [show ((255 : Nat) : Int) = 255 from rfl] at h
  omega
theorem wrap_bd (x : Int) : -9223372036854775808 ≤ wrap64 x ∧ wrap64 x ≤ 9223372036854775807 := by unfold wrap64; omega
theorem dByte (l : List Int) (p z : Int) (hl : l.length ≤ 1048576) (hp : 0 ≤ p ∧ p ≤ l.length) : ∃ v p' z', spec_l01Byte.f l p z = some (v, p', z') ∧ (0 ≤ v ∧ v < 256) ∧ 0 ≤ p' ∧ p' ≤ l.length := by
  unfold spec_l01Byte.f
  by_cases h : p < (l.length : Int)
  · rw [if_pos h, if_pos hp.1]
    refine ⟨_, _, _, rfl, and255 _, ?_⟩
    rw [wrapId (by omega) (by omega)]; omega
  · rw [if_neg h]
    exact ⟨_, _, _, rfl, and255 _, hp⟩
theorem dBelow (l : List Int) (p z n : Int) (hl : l.length ≤ 1048576) (hp : 0 ≤ p ∧ p ≤ l.length) (hn : 0 < n) : ∃ v p' z', spec_l01Below.f l p z n = some (v, p', z') ∧ (0 ≤ v ∧ v < n) ∧ 0 ≤ p' ∧ p' ≤ l.length := by
  unfold spec_l01Below.f
  rw [if_neg (by omega)]
  by_cases h : n ≤ 256
  · rw [if_pos h]
    obtain ⟨v, p1, z1, e1, hv, hp1⟩ := dByte l p z hl hp
    rw [e1]
    simp only [Option.bind_some]
    rw [if_neg (by omega)]
    refine ⟨_, _, _, rfl, ?_, hp1⟩
    rw [tmod_nn hv.1]
    exact ⟨Int.emod_nonneg _ (by omega), Int.emod_lt_of_pos _ hn⟩
  · rw [if_neg h]
    obtain ⟨v1, p1, z1, e1, hv1, hp1⟩ := dByte l p z hl hp
    rw [e1]
    simp only [Option.bind_some]
    obtain ⟨v2, p2, z2, e2, hv2, hp2⟩ := dByte l p1 z1 hl hp1
    rw [e2]
    simp only [Option.bind_some]
    obtain ⟨v3, p3, z3, e3, hv3, hp3⟩ := dByte l p2 z2 hl hp2
    rw [e3]
    simp only [Option.bind_some]
    obtain ⟨v4, p4, z4, e4, hv4, hp4⟩ := dByte l p3 z3 hl hp3
    rw [e4]
    simp only [Option.bind_some]
    rw [if_neg (by omega)]
    refine ⟨_, _, _, rfl, ?_, hp4⟩
    rw [wrapId (x := v1 * 16777216) (by omega) (by omega), wrapId (x := v2 * 65536) (by omega) (by omega), wrapId (x := v1 * 16777216 + v2 * 65536) (by omega) (by omega), wrapId (x := v3 * 256) (by omega) (by omega), wrapId (x := v1 * 16777216 + v2 * 65536 + v3 * 256) (by omega) (by omega), wrapId (by omega) (by omega), tmod_nn (by omega)]
    exact ⟨Int.emod_nonneg _ (by omega), Int.emod_lt_of_pos _ hn⟩
theorem dNew_l0 (l : List Int) (hl : l.length ≤ 1048576) (d : Nat) : ∀ (i : Nat) (h : Int), l.length - i = d → i ≤ l.length → Gets (fun k => spec_l01New.l0 k l h (i : Int)) (fun r => r.1 = l ∧ r.2.1 = 0) := by
  induction d with
  | zero =>
    intro i h hd hi
    exact Gets.step (fun k => spec_l01New.l0.eq_2 ..) (Gets.neg (by omega) (Gets.ret ⟨rfl, rfl⟩))
  | succ d ih =>
    intro i h hd hi
    refine Gets.step (fun k => spec_l01New.l0.eq_2 ..) (Gets.pos (by omega) (Gets.ite (fun _ => Gets.pos (by omega) ?_) (fun _ => Gets.ret ⟨rfl, rfl⟩)))
    rw [wrapId (x := (i : Int) + 1) (by omega) (by omega), show ((i : Int) + 1) = ((i + 1 : Nat) : Int) by omega]
    exact ih (i + 1) _ (by omega) (by omega)
theorem dNew (l : List Int) (hl : l.length ≤ 1048576) : Gets (fun k => spec_l01New.f k l) (fun r => r.1 = l ∧ r.2.1 = 0) := by
  unfold spec_l01New.f
  exact dNew_l0 l hl _ 0 _ rfl (by omega)

theorem dPickS (l : List Int) (p z : Int) (m : List ByteArray) (n : Nat) (hl : l.length ≤ 1048576) (hp : 0 ≤ p ∧ p ≤ l.length) (hm : 0 < m.length) (hs : ∀ t ∈ m, t.size ≤ n) : ∃ v p' z', spec_l01Pick.f l p z m = some (v, p', z') ∧ v.size ≤ n ∧ 0 ≤ p' ∧ p' ≤ l.length := by
  unfold spec_l01Pick.f
  obtain ⟨v, p', z', e, hv, hp'⟩ := dBelow l p z (m.length : Int) hl hp (by omega)
  rw [e]
  simp only [Option.bind_some]
  rw [if_pos hv.1, if_pos hv.2]
  refine ⟨_, _, _, rfl, ?_, hp'⟩
  have e2 : rdOf ByteArray.empty m v = m[v.toNat]'(by omega) := rdS_get (by omega)
  rw [e2]
  exact hs _ (List.getElem_mem _)

theorem dPickInt (l : List Int) (p z : Int) (m : List Int) (hl : l.length ≤ 1048576) (hp : 0 ≤ p ∧ p ≤ l.length) (hm : 0 < m.length) : ∃ v p' z', spec_l01PickInt.f l p z m = some (v, p', z') ∧ v ∈ m ∧ 0 ≤ p' ∧ p' ≤ l.length := by
  unfold spec_l01PickInt.f
  obtain ⟨v, p', z', e, hv, hp'⟩ := dBelow l p z (m.length : Int) hl hp (by omega)
  rw [e]
  simp only [Option.bind_some]
  rw [if_pos hv.1, if_pos hv.2]
  refine ⟨_, _, _, rfl, ?_, hp'⟩
  rw [rd_get (by omega)]
  exact List.getElem_mem _

theorem dLong_l0 (n : Nat) (c : Int) (d : Nat) : ∀ (i : Nat) (acc : List Int), n - i = d → i ≤ n → acc.length = n → n ≤ 1000000 → Gets (fun k => spec_l01Long.l0 k (n : Int) c acc (i : Int)) (fun r => r.size = n) := by
  induction d with
  | zero =>
    intro i acc hd hi ha hn
    exact Gets.step (fun k => spec_l01Long.l0.eq_2 ..) (Gets.neg (by omega) (Gets.ret (by rw [strOfNums_size]; exact ha)))
  | succ d ih =>
    intro i acc hd hi ha hn
    refine Gets.step (fun k => spec_l01Long.l0.eq_2 ..) (Gets.pos (by omega) (Gets.pos (by omega) (Gets.pos (by omega) ?_)))
    rw [wrapId (x := (i : Int) + 1) (by omega) (by omega), show ((i : Int) + 1) = ((i + 1 : Nat) : Int) by omega]
    exact ih (i + 1) _ (by omega) (by omega) (by simpa using ha) hn
theorem dLong (n : Nat) (c : Int) (hn : n ≤ 1000000) : Gets (fun k => spec_l01Long.f k (n : Int) c) (fun r => r.size = n) := by
  unfold spec_l01Long.f
  refine Gets.pos (by omega) (Gets.pos (by omega) ?_)
  exact dLong_l0 n c _ 0 _ rfl (by omega) (by simp) hn

theorem recv_cases (nx ac : Int) (q : List ByteArray) (got : Int) (out : List ByteArray) (num ack : Int) (t : ByteArray) :
    ((¬ endP nx ac q got out ∨ num < 0 ∨ t.size > 60) ∧ recvT nx ac q got out num ack t = (nx, ac, q, got, out, false)) ∨
    (endP nx ac q got out ∧ 0 ≤ num ∧ t.size ≤ 60 ∧ ∃ a' q', (a' = ac ∧ q' = q ∨ ac < ack ∧ ack ≤ nx ∧ a' = ack ∧ q' = q.drop (ack - ac).toNat) ∧ recvT nx ac q got out num ack t = recvI nx a' q' got out num t) := by
  unfold recvT
  by_cases h : num < 0 ∨ t.size > 60 ∨ ¬ endP nx ac q got out
  · rw [if_pos h]
    refine .inl ⟨?_, rfl⟩
    rcases h with h | h | h
    · exact .inr (.inl h)
    · exact .inr (.inr h)
    · exact .inl h
  · rw [if_neg h]
    have hE : endP nx ac q got out := Classical.not_not.1 (fun e => h (.inr (.inr e)))
    refine .inr ⟨hE, by omega, by omega, ?_⟩
    by_cases c : ack > ac ∧ ack ≤ nx
    · rw [if_pos c]
      exact ⟨ack, _, .inr ⟨by omega, c.2, rfl, rfl⟩, rfl⟩
    · rw [if_neg c]
      exact ⟨ac, q, .inl ⟨rfl, rfl⟩, rfl⟩
def invD (i : Nat) (nx ac : Int) (q out : List ByteArray) : Prop := (0 ≤ ac ∧ ac ≤ 4 * i) ∧ (0 ≤ nx ∧ nx ≤ 4 * i) ∧ q.length ≤ 30 ∧ out.length ≤ 1000
theorem invD_recv {i : Nat} {nx ac : Int} {q : List ByteArray} {got : Int} {out : List ByteArray} (num ack : Int) (t : ByteArray) (h : invD i nx ac q out) :
    invD (i + 1) (recvT nx ac q got out num ack t).1 (recvT nx ac q got out num ack t).2.1 (recvT nx ac q got out num ack t).2.2.1 (recvT nx ac q got out num ack t).2.2.2.2.1 := by
  obtain ⟨h1, h2, h3, h4⟩ := h
  rcases recv_cases nx ac q got out num ack t with ⟨_, e⟩ | ⟨hE, _, _, a', q', c, e⟩
  · rw [e]; exact ⟨by simp only; omega, by simp only; omega, h3, h4⟩
  · have hE5 := hE.2.2.2.2.1
    have hE4 := hE.2.2.2.1
    have hq : q'.length ≤ 30 := by
      rcases c with ⟨_, rfl⟩ | ⟨_, _, _, rfl⟩
      · exact h3
      · rw [List.length_drop]; omega
    rw [e]
    unfold recvI
    split
    · exact ⟨by simp only; omega, by simp only; omega, hq, by simp; omega⟩
    · exact ⟨by simp only; omega, by simp only; omega, hq, h4⟩
theorem invD_new {i : Nat} {nx ac : Int} {q : List ByteArray} {got : Int} {out : List ByteArray} (h : invD i nx ac q out) : invD (i + 1) (newT nx ac q got out).1 (newT nx ac q got out).2.1 (newT nx ac q got out).2.2.1 (newT nx ac q got out).2.2.2.2.1 := by
  obtain ⟨h1, h2, h3, h4⟩ := h
  by_cases hE : endP nx ac q got out
  · rw [newT_yes hE]
    have := upNew_bd hE
    exact ⟨by simp only; omega, by simp only; omega, h3, h4⟩
  · rw [newT_no hE]; exact ⟨by simp only; omega, by simp only; omega, h3, h4⟩
theorem invD_offer {i : Nat} {nx ac : Int} {q : List ByteArray} {got : Int} {out : List ByteArray} (t : ByteArray) (h : invD i nx ac q out) : invD (i + 1) (offerT nx ac q got out t).1 (offerT nx ac q got out t).2.1 (offerT nx ac q got out t).2.2.1 (offerT nx ac q got out t).2.2.2.2.1 := by
  have hl := offer_len nx ac q got out t
  obtain ⟨h1, h2, h3, h4⟩ := h
  have hn : 0 ≤ (offerT nx ac q got out t).2.1 ∧ (offerT nx ac q got out t).2.1 ≤ 4 * i ∧ 0 ≤ (offerT nx ac q got out t).1 ∧ (offerT nx ac q got out t).1 ≤ 4 * i := by
    unfold offerT
    split <;> simp only <;> omega
  exact ⟨by omega, by omega, hl.1, hl.2⟩
theorem wrapBd (x : Int) : -9223372036854775808 ≤ wrap64 x ∧ wrap64 x ≤ 9223372036854775807 := by unfold wrap64; omega
/-- What is known of a drawn end. -/
def drawnE (nx ac : Int) (q out : List ByteArray) : Prop := (-9223372036854775808 ≤ nx ∧ nx ≤ 9223372036854775807) ∧ q.length ≤ 31 ∧ out.length ≤ 1000 ∧ (nx ≤ 70)
theorem dName3 (l : List Int) (p z : Int) (hl : l.length ≤ 1048576) (hp : 0 ≤ p ∧ p ≤ l.length) : ∃ v p' z', spec_l03Name.f l p z = some (v, p', z') ∧ 0 ≤ p' ∧ p' ≤ l.length := by
  unfold spec_l03Name.f
  obtain ⟨v, p2, z2, e2, _, hp2⟩ := dPickS l p z [(⟨#[97, 110, 110]⟩ : ByteArray), (⟨#[98, 111, 98]⟩ : ByteArray), (⟨#[99, 121]⟩ : ByteArray), (⟨#[100, 52]⟩ : ByteArray), (⟨#[101, 118, 101]⟩ : ByteArray)] 9 hl hp (by simp)
    (by
      intro u hu
      simp only [List.mem_cons, List.not_mem_nil, or_false] at hu
      rcases hu with rfl | rfl | rfl | rfl | rfl <;> decide)
  simp only [e2, Option.bind_some]
  exact ⟨_, _, _, rfl, hp2⟩
theorem dEnd_out (l : List Int) (hl : l.length ≤ 1048576) (nx ac : Int) (q : List ByteArray) (got : Int) (out : List ByteArray) (p z : Int) (hp : 0 ≤ p ∧ p ≤ l.length) (h : invD 13 nx ac q out) (i : Int) (k0 : Nat → Nat) :
    Gets (fun k => (spec_l01Below.f l p z 24).bind fun bt276 => (if bt276.1 = 0 then ((spec_l01PickInt.f l bt276.2.1 bt276.2.2 (([(-1), 1000, 1001] : List Int))).bind fun bt282 => (some (nx, bt282.1, q, got, out, bt282.2.1, bt282.2.2))) else (if bt276.1 = 1 then ((spec_l01PickInt.f l bt276.2.1 bt276.2.2 (([(-1), 1, 9] : List Int))).bind fun bt288 => (some (wrap64 (nx + bt288.1), ac, q, got, out, bt288.2.1, bt288.2.2))) else (if bt276.1 = 2 then (some (nx, ac, q, wrap64 (got + 1), out, bt276.2.1, bt276.2.2)) else (if bt276.1 = 3 then ((some (([] : List ByteArray) : List ByteArray)).bind fun y291 => (if y291.length + q.length < 8796093022208 then ((some (y291 ++ q : List ByteArray)).bind fun y294 => ((spec_l01Below.f l bt276.2.1 bt276.2.2 2).bind fun bt297 => ((spec_l01Long.f k (wrap64 (60 + bt297.1)) 65).bind fun t300 => (if y294.length < 8796093022208 then (some (nx, ac, (y294 ++ [t300]), got, out, bt297.2.1, bt297.2.2)) else (none))))) else (none))) else (some (nx, ac, q, got, out, bt276.2.1, bt276.2.2)))))))
      (fun r => drawnE r.1 r.2.1 r.2.2.1 r.2.2.2.2.1 ∧ 0 ≤ r.2.2.2.2.2.1 ∧ r.2.2.2.2.2.1 ≤ l.length) := by
  obtain ⟨h1, h2, h3, h4⟩ := h
  obtain ⟨v, p1, z1, e1, hv, hp1⟩ := dBelow l p z 24 hl hp (by omega)
  simp only [e1, Option.bind_some]
  have base : drawnE nx ac q out := ⟨by omega, by omega, h4, by omega⟩
  refine Gets.ite (fun _ => ?_) (fun _ => Gets.ite (fun _ => ?_) (fun _ => Gets.ite (fun _ => Gets.ret ⟨base, hp1⟩) (fun _ => Gets.ite (fun _ => ?_) (fun _ => Gets.ret ⟨base, hp1⟩))))
  · obtain ⟨u, p2, z2, e2, hu, hp2⟩ := dPickInt l p1 z1 [(-1), 1000, 1001] hl hp1 (by simp)
    simp only [e2, Option.bind_some]
    exact Gets.ret ⟨⟨by simp only; omega, by simp only; omega, h4, by simp only; omega⟩, hp2⟩
  · obtain ⟨u, p2, z2, e2, hu, hp2⟩ := dPickInt l p1 z1 [(-1), 1, 9] hl hp1 (by simp)
    simp only [e2, Option.bind_some]
    simp only [List.mem_cons, List.not_mem_nil, or_false] at hu
    refine Gets.ret ⟨⟨wrapBd _, by simp only; omega, h4, ?_⟩, hp2⟩
    simp only
    rw [wrapId (by omega) (by omega)]
    omega
  · simp only [List.length_nil, List.nil_append]
    refine Gets.pos (by omega) ?_
    obtain ⟨u, p2, z2, e2, hu, hp2⟩ := dBelow l p1 z1 2 hl hp1 (by omega)
    simp only [e2, Option.bind_some]
    rw [wrapId (by omega) (by omega), show (60 + u : Int) = ((60 + u.toNat : Nat) : Int) by omega]
    refine Gets.bind (dLong (60 + u.toNat) 65 (by omega)) (fun t _ => Gets.pos (by omega) (Gets.ret ⟨⟨by simp only; omega, by simp; omega, h4, by simp only; omega⟩, hp2⟩))
theorem dEnd_l0 (l : List Int) (hl : l.length ≤ 1048576) (d : Nat) : ∀ (i : Nat) (nx ac : Int) (q : List ByteArray) (got : Int) (out : List ByteArray) (p z : Int), 13 - i = d → i ≤ 13 → (0 ≤ p ∧ p ≤ l.length) → invD i nx ac q out →
    Gets (fun k => spec_l06End.l0 k (i : Int) l p z nx ac q got out) (fun r => drawnE r.1 r.2.1 r.2.2.1 r.2.2.2.2.1 ∧ 0 ≤ r.2.2.2.2.2.1 ∧ r.2.2.2.2.2.1 ≤ l.length) := by
  have up : ∀ {i nx ac q out}, i ≤ 13 → invD i nx ac q out → invD 13 nx ac q out := by
    intro i nx ac q out hi h
    obtain ⟨h1, h2, h3⟩ := h
    exact ⟨by omega, by omega, h3⟩
  induction d with
  | zero =>
    intro i nx ac q got out p z hd hi hp h
    obtain ⟨v, p1, z1, e1, hv, hp1⟩ := dBelow l p z 14 hl hp (by omega)
    refine Gets.step (fun k => spec_l06End.l0.eq_2 ..) ?_
    simp only [e1, Option.bind_some]
    exact Gets.neg (by omega) (dEnd_out l hl nx ac q got out p1 z1 hp1 (up hi h) i id)
  | succ d ih =>
    intro i nx ac q got out p z hd hi hp h
    obtain ⟨v, p1, z1, e1, hv, hp1⟩ := dBelow l p z 14 hl hp (by omega)
    refine Gets.step (fun k => spec_l06End.l0.eq_2 ..) ?_
    simp only [e1, Option.bind_some]
    have hnx : -9223372036854775808 ≤ nx ∧ nx ≤ 9223372036854775807 := by have := h.2.1; omega
    have hq : q.length ≤ 1048576 := by have := h.2.2.1; omega
    have ho : out.length ≤ 1048576 := by have := h.2.2.2; omega
    refine Gets.ite (fun _ => ?_) (fun _ => dEnd_out l hl nx ac q got out p1 z1 hp1 (up hi h) i id)
    obtain ⟨u, p2, z2, e2, hu, hp2⟩ := dBelow l p1 z1 4 hl hp1 (by omega)
    simp only [e2, Option.bind_some]
    rw [wrapId (x := (i : Int) + 1) (by omega) (by omega), show (i : Int) + 1 = ((i + 1 : Nat) : Int) by omega]
    refine Gets.ite (fun _ => ?_) (fun _ => Gets.ite (fun _ => ?_) (fun _ => ?_))
    · refine Gets.bindE (specNew nx ac q got out hnx hq ho).ev ?_
      exact ih (i + 1) _ _ _ _ _ _ _ (by omega) (by omega) hp2 (invD_new h)
    · obtain ⟨a, p3, z3, e3, ha, hp3⟩ := dBelow l p2 z2 2 hl hp2 (by omega)
      obtain ⟨b, p4, z4, e4, hb, hp4⟩ := dBelow l p3 z3 3 hl hp3 (by omega)
      obtain ⟨s, p5, z5, e5, hp5⟩ := dName3 l p4 z4 hl hp4
      simp only [e3, e4, e5, Option.bind_some]
      refine Gets.bindE (specRecv nx ac q got out _ _ _ hnx hq ho).ev ?_
      exact ih (i + 1) _ _ _ _ _ _ _ (by omega) (by omega) hp5 (invD_recv _ _ _ h)
    · obtain ⟨s, p3, z3, e3, hp3⟩ := dName3 l p2 z2 hl hp2
      simp only [e3, Option.bind_some]
      refine Gets.bindE (specOffer nx ac q got out _ hnx hq ho).ev ?_
      exact ih (i + 1) _ _ _ _ _ _ _ (by omega) (by omega) hp3 (invD_offer _ h)
theorem dReceive (l : List Int) (hl : l.length ≤ 1048576) : Gets (fun k => spec_DrawReceive.f k l) (fun r => drawnE r.1 r.2.1 r.2.2.1 r.2.2.2.2.1) := by
  unfold spec_DrawReceive.f
  refine Gets.bind (dNew l hl) (fun c hc => ?_)
  obtain ⟨c1, c2, c3⟩ := c
  obtain ⟨h1, h2⟩ := hc
  simp only at h1 h2
  subst h1 h2
  refine Gets.bind (dEnd_l0 c1 hl 13 0 0 0 [] 0 [] 0 c3 rfl (by omega) (by omega) ⟨by simp, by simp, by simp, by simp⟩) (fun r hr => ?_)
  obtain ⟨nx, ac, q, got, out, p, z⟩ := r
  obtain ⟨hD, hp⟩ := hr
  simp only at hD hp ⊢
  obtain ⟨a, p2, z2, e2, ha, hp2⟩ := dBelow c1 p z 3 hl hp (by omega)
  obtain ⟨b, p3, z3, e3, hb, hp3⟩ := dBelow c1 p2 z2 5 hl hp2 (by omega)
  obtain ⟨s, p4, z4, e4, hp4⟩ := dName3 c1 p3 z3 hl hp3
  obtain ⟨u, p5, z5, e5, hu, hp5⟩ := dBelow c1 p4 z4 12 hl hp4 (by omega)
  simp only [e2, e3, e4, e5, Option.bind_some]
  refine Gets.ite (fun _ => ?_) (fun _ => Gets.ite (fun _ => ?_) (fun _ => Gets.ite (fun _ => ?_) (fun _ => Gets.step (fun k => spec_DrawReceive.j0.eq_2 ..) (Gets.ret hD))))
  · obtain ⟨v, p6, z6, e6, _, hp6⟩ := dPickInt c1 p5 z5 [(-1), 9223372036854775807] hl hp5 (by simp)
    simp only [e6, Option.bind_some]
    exact Gets.step (fun k => spec_DrawReceive.j0.eq_2 ..) (Gets.ret hD)
  · obtain ⟨v, p6, z6, e6, _, hp6⟩ := dPickInt c1 p5 z5 [(-1), 9223372036854775807, (-9223372036854775808)] hl hp5 (by simp)
    simp only [e6, Option.bind_some]
    exact Gets.step (fun k => spec_DrawReceive.j0.eq_2 ..) (Gets.ret hD)
  · obtain ⟨v, p6, z6, e6, hv, hp6⟩ := dBelow c1 p5 z5 2 hl hp5 (by omega)
    simp only [e6, Option.bind_some]
    rw [wrapId (by omega) (by omega), show (60 + v : Int) = ((60 + v.toNat : Nat) : Int) by omega]
    exact Gets.bind (dLong (60 + v.toNat) 65 (by omega)) (fun t _ => Gets.step (fun k => spec_DrawReceive.j0.eq_2 ..) (Gets.ret hD))
theorem recv_again {nx ac : Int} {q : List ByteArray} {got : Int} {out : List ByteArray} {num : Int} {t : ByteArray} (nx' ac' : Int) (q' : List ByteArray) (out' : List ByteArray) (ack' : Int) (h : num = got + 1) : (recvT nx' ac' q' (got + 1) out' num ack' t).2.2.2.2.2 = false := by
  rcases recv_cases nx' ac' q' (got + 1) out' num ack' t with ⟨_, e⟩ | ⟨_, _, _, a, b, _, e⟩
  · rw [e]
  · rw [e]; unfold recvI; rw [if_neg (by omega)]
theorem short_drop {l : List ByteArray} (n : Nat) (h : shortL l = true) : shortL (l.drop n) = true := by
  unfold shortL at h ⊢
  rw [List.all_eq_true] at h ⊢
  exact fun x hx => h x (List.mem_of_mem_drop hx)
theorem short_snoc {l : List ByteArray} {t : ByteArray} (h : shortL l = true) (ht : t.size ≤ 60) : shortL (l ++ [t]) = true := by
  unfold shortL at h ⊢
  rw [List.all_append, h]
  simp; omega
theorem FnReceives : Stat.FnReceives := by
  intro l _
  refine Gets.rounds ?_
  unfold laws_FnReceives.f laws_big.f
  simp only [Option.bind_some]
  refine Gets.ite (fun _ => Gets.ret rfl) (fun h => ?_)
  have hl : l.length ≤ 1048576 := by
    rcases Nat.lt_or_ge 1048576 l.length with h1 | h1
    · exact absurd (decide_eq_true (by omega)) h
    · exact h1
  refine Gets.bind (dReceive l hl) (fun e he => ?_)
  obtain ⟨nx, ac, q, got, out, num, ack, t⟩ := e
  obtain ⟨hn, hq, ho, h70⟩ := he
  simp only at hn hq ho h70 ⊢
  refine Gets.bindE (implRecv nx ac q got out num ack t hn (by omega) (by omega)).ev ?_
  refine Gets.bindE (specRecv nx ac q got out num ack t hn (by omega) (by omega)).ev ?_
  have sE := specEndOk nx ac q got out hn (by omega) (by omega)
  have iE := implEndOk nx ac q got out hn (by omega) (by omega)
  rcases recv_cases nx ac q got out num ack t with ⟨c, e⟩ | ⟨hE, hnum, ht, a', q', c, e⟩
  · rw [e]
    refine Gets.bindE (implRecv nx ac q got out num ack t hn (by omega) (by omega)).ev ?_
    refine Gets.neg (by simp) (Gets.neg (by simp) (Gets.step (fun k => laws_FnReceives.j0.eq_2 ..) (Gets.neg (by simp) ?_)))
    refine Gets.bind sE (fun r hr => Gets.ite (fun h => ?_) (fun h => ?_))
    · have hE := hr.1 h
      have := hE.2.2.2.1
      refine Gets.bind iE (fun r2 hr2 => Gets.pos (hr2.2 hE) (Gets.pos (Int.le_refl _) (Gets.pos (Int.le_refl _) (Gets.ret ?_))))
      rw [wrapId (by omega) (by omega)]
      have : (got == got + 1) = false := by rw [beq_eq_false_iff_ne]; omega
      rw [this]; rfl
    · refine Gets.bind iE (fun r2 hr2 => Gets.bind sE (fun r3 hr3 => Gets.pos ?_ (Gets.ret rfl)))
      have h2 : r2 = r3 := by rw [Bool.eq_iff_iff, hr2, hr3]
      rw [h2]; simp
  · rw [e]
    obtain ⟨k1, k2, k3, k4, k5, k6, k7⟩ := hE
    have hE : endP nx ac q got out := ⟨k1, k2, k3, k4, k5, k6, k7⟩
    have ha : ac ≤ a' := by rcases c with ⟨rfl, _⟩ | ⟨c1, _, rfl, _⟩ <;> omega
    have hE' : endP nx a' q' got out := by
      rcases c with ⟨rfl, rfl⟩ | ⟨c1, c2, rfl, rfl⟩
      · exact hE
      · exact ⟨by omega, by omega, by rw [List.length_drop]; omega, k4, k5, short_drop _ k6, k7⟩
    have hql : q'.length ≤ 31 := by have := hE'.2.2.1; omega
    unfold recvI
    by_cases hc : num = got + 1 ∧ got < 1000
    · rw [if_pos hc]
      refine Gets.bindE (implRecv nx a' q' (got + 1) (out ++ [t]) num ack t hn (by omega) (by simp; omega)).ev ?_
      refine Gets.neg (by simp) (Gets.pos rfl ?_)
      simp only
      rw [recv_again (nx := nx) (ac := ac) (q := q) (out := out) nx a' q' (out ++ [t]) ack hc.1]
      refine Gets.step (fun k => laws_FnReceives.j0.eq_2 ..) (Gets.neg (by simp) ?_)
      have hE2 : endP nx a' q' (got + 1) (out ++ [t]) := ⟨hE'.1, hE'.2.1, hE'.2.2.1, by omega, by simp; omega, hE'.2.2.2.2.2.1, short_snoc k7 ht⟩
      refine Gets.bind sE (fun r hr => Gets.pos (hr.2 hE) (Gets.bind (implEndOk nx a' q' (got + 1) (out ++ [t]) hn (by omega) (by simp; omega)) (fun r2 hr2 => Gets.pos (hr2.2 hE2) (Gets.pos (by simp only [List.length_append]; omega) (Gets.pos ha (Gets.ret ?_))))))
      rw [wrapId (by omega) (by omega)]
      simp
    · rw [if_neg hc]
      refine Gets.bindE (implRecv nx a' q' got out num ack t hn (by omega) (by omega)).ev ?_
      refine Gets.neg (by simp) (Gets.neg (by simp) (Gets.step (fun k => laws_FnReceives.j0.eq_2 ..) (Gets.neg (by simp) ?_)))
      refine Gets.bind sE (fun r hr => Gets.pos (hr.2 hE) (Gets.bind (implEndOk nx a' q' got out hn (by omega) (by omega)) (fun r2 hr2 => Gets.pos (hr2.2 hE') (Gets.pos (Int.le_refl _) (Gets.pos ha (Gets.ret ?_))))))
      rw [wrapId (by omega) (by omega)]
      have : (got == got + 1) = false := by rw [beq_eq_false_iff_ne]; omega
      rw [this]; rfl

end Go.Proofs.Ytlidnobkkgcnlaa.Pure
