/- Two ends that lose nothing bring all of a drawn list over, in order: for every drawn list. -/
import Derived.Test.YtlidnobkkgcnlaaStatFnEnds
import Derived.Lib.Strings
set_option linter.unusedVariables false
set_option linter.unusedSimpArgs false
namespace Go.Proofs.Ytlidnobkkgcnlaa.Pure
open Go.RowKit Go.Proofs.Ytlidnobkkgcnlaa.PFnEnds Go.Proofs.YtlidnobkkgcnlaaW.PrintWords Go.Proofs.YtlidnobkkgcnlaaW.PrintLast

/-! ### plain words: from some number of rounds on -/
def Gets {α : Type} (f : Nat → Option α) (Q : α → Prop) : Prop := ∃ r, Ev f r ∧ Q r
theorem Gets.ret {α : Type} {Q : α → Prop} {r : α} (h : Q r) : Gets (fun _ => some r) Q := ⟨r, Ev.now r, h⟩
theorem Gets.none {α : Type} {Q : α → Prop} (h : False) : Gets (fun _ => (Option.none : Option α)) Q := h.elim
theorem Gets.step {α : Type} {g f : Nat → Option α} {Q : α → Prop} (h : ∀ k, g (k + 1) = f k) (k : Gets f Q) : Gets g Q := by
  obtain ⟨r, hr, hq⟩ := k
  exact ⟨r, Ev.step h hr, hq⟩
theorem Ev.ite {α : Type} {c : Prop} [Decidable c] {f g : Nat → Option α} {r : α} (h : c → Ev f r) (k : ¬ c → Ev g r) : Ev (fun n => if c then f n else g n) r := by
  by_cases hc : c
  · simp only [hc, if_true]; exact h hc
  · simp only [hc, if_false]; exact k hc
theorem Gets.ite {α : Type} {c : Prop} [Decidable c] {f g : Nat → Option α} {Q : α → Prop} (h : c → Gets f Q) (k : ¬ c → Gets g Q) : Gets (fun n => if c then f n else g n) Q := by
  by_cases hc : c
  · simp only [hc, if_true]; exact h hc
  · simp only [hc, if_false]; exact k hc
theorem Gets.pos {α : Type} {c : Prop} [Decidable c] {f g : Nat → Option α} {Q : α → Prop} (hc : c) (h : Gets f Q) : Gets (fun n => if c then f n else g n) Q := by
  simp only [hc, if_true]; exact h
theorem Gets.neg {α : Type} {c : Prop} [Decidable c] {f g : Nat → Option α} {Q : α → Prop} (hc : ¬ c) (h : Gets g Q) : Gets (fun n => if c then f n else g n) Q := by
  simp only [hc, if_false]; exact h
theorem Gets.bind {α β : Type} {g : Nat → Option α} {f : Nat → α → Option β} {P : α → Prop} {Q : β → Prop} (h : Gets g P) (k : ∀ a, P a → Gets (fun n => f n a) Q) : Gets (fun n => (g n).bind (f n)) Q := by
  obtain ⟨a, ha, hp⟩ := h
  obtain ⟨r, hr, hq⟩ := k a hp
  exact ⟨r, Ev.bind ha hr, hq⟩
theorem Gets.bindE {α β : Type} {g : Nat → Option α} {f : Nat → α → Option β} {a : α} {Q : β → Prop} (h : Ev g a) (k : Gets (fun n => f n a) Q) : Gets (fun n => (g n).bind (f n)) Q := by
  obtain ⟨r, hr, hq⟩ := k
  exact ⟨r, Ev.bind h hr, hq⟩
theorem Gets.mono {α : Type} {f : Nat → Option α} {P Q : α → Prop} (h : Gets f P) (k : ∀ a, P a → Q a) : Gets f Q := by
  obtain ⟨r, hr, hp⟩ := h
  exact ⟨r, hr, k r hp⟩
theorem Gets.rounds {α : Type} {f : Nat → Option α} {r : α} (h : Gets f (· = r)) : ∃ k, f k = some r := by
  obtain ⟨a, ha, rfl⟩ := h
  exact ha.rounds
theorem Gets.ev {α : Type} {f : Nat → Option α} {r : α} (h : Gets f (· = r)) : Ev f r := by
  obtain ⟨a, ha, rfl⟩ := h
  exact ha
theorem Ev.gets {α : Type} {f : Nat → Option α} {r : α} {Q : α → Prop} (h : Ev f r) (hq : Q r) : Gets f Q := ⟨r, h, hq⟩
theorem Gets.same {α : Type} {o : Option α} {Q : α → Prop} {r : α} (h : o = some r) (hq : Q r) : Gets (fun _ => o) Q := by
  subst h; exact Gets.ret hq
theorem wrapId {x : Int} (h0 : -9223372036854775808 ≤ x) (h1 : x ≤ 9223372036854775807) : wrap64 x = x := by
  unfold wrap64; omega
theorem i64_bd {n : Int} (h : (Lit.int .i64 n).wf = true) : -9223372036854775808 ≤ n ∧ n ≤ 9223372036854775807 := by
  have hm : IntKind.i64.min = -9223372036854775808 := rfl
  simp [Lit.wf, hm] at h
  exact h
theorem boolEq {a b : Bool} {P Q : Prop} (ha : a = true ↔ P) (hb : b = true ↔ Q) (h : P ↔ Q) : a = b := by
  rw [Bool.eq_iff_iff, ha, hb, h]
theorem tmod_nn {a b : Int} (h : 0 ≤ a) : Int.tmod a b = a % b := Int.tmod_eq_emod_of_nonneg h
theorem tdiv_nn {a b : Int} (h : 0 ≤ a) : Int.tdiv a b = a / b := Int.tdiv_eq_ediv_of_nonneg h

/-! ### rows of numbers -/
theorem rd_get {l : List Int} {i : Int} (h : i.toNat < l.length) : rd l i = l[i.toNat] := by
  unfold rd; rw [List.getD_eq_getElem?_getD, List.getElem?_eq_getElem h]; rfl
theorem fill_step {α : Type} (l : List α) (d : α) (i : Nat) (h : i < l.length) : (l.take i ++ List.replicate (l.length - i) d).set i l[i] = l.take (i + 1) ++ List.replicate (l.length - (i + 1)) d := by
  have e : List.replicate (l.length - i) d = d :: List.replicate (l.length - (i + 1)) d := by
    rw [show l.length - i = (l.length - (i + 1)) + 1 by omega]; rfl
  rw [e, List.set_append_right _ _ (by rw [List.length_take]; omega), List.length_take, show i - min i l.length = 0 by omega, List.set_cons_zero, List.take_succ_eq_append_getElem h, List.append_assoc]
  rfl
theorem drop_at {α : Type} (l : List α) (i : Nat) (h : i < l.length) : l.drop i = l[i] :: l.drop (i + 1) := List.drop_eq_getElem_cons h
def marks (k : Int) (n : Nat) : List Int := (List.range n).map (fun (i : Nat) => k + (i : Int))
theorem marks_length (k : Int) (n : Nat) : (marks k n).length = n := by simp [marks]
theorem marks_get (k : Int) (n i : Nat) (h : i < n) : (marks k n)[i]'(by rw [marks_length]; exact h) = k + i := by simp [marks]

/-! ### texts as lists of numbers -/
theorem bytesOf_inj {a b : ByteArray} (h : bytesOf a = bytesOf b) : a = b := by
  have hl : a.data.toList = b.data.toList := by
    unfold bytesOf at h
    exact List.map_inj_right (fun x y hxy => UInt8.toNat_inj.1 (by exact_mod_cast hxy)) |>.1 h
  have hd : a.data = b.data := Array.toList_inj.1 hl
  cases a; cases b; cases hd; rfl
theorem toList_iff (a b : ByteArray) : a.toList = b.toList ↔ a = b := by
  rw [Lib.toList_data, Lib.toList_data]
  exact ⟨fun h => bytesOf_inj (by unfold bytesOf; rw [h]), fun h => by rw [h]⟩
theorem bytesOf_range {s : ByteArray} {x : Int} (h : x ∈ bytesOf s) : 0 ≤ x ∧ x < 256 := by
  unfold bytesOf at h
  obtain ⟨b, _, rfl⟩ := List.mem_map.1 h
  have := b.toNat_lt
  omega
theorem bytesOf_str {xs : List Int} (h : ∀ x ∈ xs, 0 ≤ x ∧ x < 256) : bytesOf (strOfNums xs) = xs := by
  unfold bytesOf
  rw [strOfNums_data, List.map_map]
  conv => rhs; rw [← List.map_id xs]
  refine List.map_congr_left (fun x hx => ?_)
  have := h x hx
  simp only [Function.comp, UInt8.toNat_ofNat', id]
  omega
theorem str_bytesOf (s : ByteArray) : strOfNums (bytesOf s) = s := bytesOf_inj (bytesOf_str (fun _ => bytesOf_range))
theorem bytesOf_extract (s : ByteArray) (a b : Nat) : bytesOf (s.extract a b) = ((bytesOf s).drop a).take (b - a) := by
  unfold bytesOf
  rw [Lib.extract_data, List.map_take, List.map_drop]
theorem bytesOf_app (a b : ByteArray) : bytesOf (a ++ b) = bytesOf a ++ bytesOf b := by
  unfold bytesOf
  rw [← List.map_append]
  congr 1
  first | done | simp
theorem bt_getD (s : ByteArray) (i : Int) : bt s i = (bytesOf s).getD i.toNat 0 := (rd_bytesOf s i).symm
theorem bytesOf_empty : bytesOf (⟨#[]⟩ : ByteArray) = [] := rfl
theorem size_eq (s : ByteArray) : s.size = (bytesOf s).length := (bytesOf_length s).symm
theorem size_app (a b : ByteArray) : (a ++ b).size = a.size + b.size := by simp

theorem rdS_get {l : List ByteArray} {i : Int} (h : i.toNat < l.length) : rdOf ByteArray.empty l i = l[i.toNat] := by
  unfold rdOf; rw [List.getD_eq_getElem?_getD, List.getElem?_eq_getElem h]; rfl
def shortL (l : List ByteArray) : Bool := l.all (fun s => decide ((s.size : Int) ≤ 60))
theorem shortL_iff (l : List ByteArray) : shortL l = true ↔ ∀ s ∈ l, s.size ≤ 60 := by
  unfold shortL
  rw [List.all_eq_true]
  exact ⟨fun h s hs => by have := of_decide_eq_true (h s hs); omega, fun h s hs => decide_eq_true (by have := h s hs; omega)⟩
theorem shortL_cons (s : ByteArray) (l : List ByteArray) : shortL (s :: l) = (decide ((s.size : Int) ≤ 60) && shortL l) := rfl

def endP (nx ac : Int) (q : List ByteArray) (got : Int) (out : List ByteArray) : Prop := (0 ≤ ac ∧ ac ≤ 1000) ∧ (ac ≤ nx ∧ nx ≤ ac + 4) ∧ (nx - ac ≤ (q.length : Int) ∧ (q.length : Int) ≤ 30) ∧ (0 ≤ got ∧ got ≤ 1000) ∧ (out.length : Int) = got ∧ shortL q = true ∧ shortL out = true

instance endDec (nx ac : Int) (q : List ByteArray) (got : Int) (out : List ByteArray) : Decidable (endP nx ac q got out) := by unfold endP; infer_instance
def offerT (nx ac : Int) (q : List ByteArray) (got : Int) (out : List ByteArray) (t : ByteArray) : Int × Int × List ByteArray × Int × List ByteArray × Bool :=
  if t.size ≤ 60 ∧ q.length < 30 ∧ ac + q.length < 1000 ∧ endP nx ac q got out then (nx, ac, q ++ [t], got, out, true) else (0, 0, [], 0, [], false)
theorem offer_len (nx ac : Int) (q : List ByteArray) (got : Int) (out : List ByteArray) (t : ByteArray) : (offerT nx ac q got out t).2.2.1.length ≤ 30 ∧ (offerT nx ac q got out t).2.2.2.2.1.length ≤ 1000 := by
  unfold offerT
  split
  · rename_i h
    obtain ⟨_, h2, _, h⟩ := h
    unfold endP at h
    simp only [List.length_append, List.length_cons, List.length_nil]
    omega
  · simp

def recvI (nx ac : Int) (q : List ByteArray) (got : Int) (out : List ByteArray) (num : Int) (t : ByteArray) : Int × Int × List ByteArray × Int × List ByteArray × Bool :=
  if num = got + 1 ∧ got < 1000 then (nx, ac, q, got + 1, out ++ [t], true) else (nx, ac, q, got, out, false)
def recvT (nx ac : Int) (q : List ByteArray) (got : Int) (out : List ByteArray) (num ack : Int) (t : ByteArray) : Int × Int × List ByteArray × Int × List ByteArray × Bool :=
  if num < 0 ∨ t.size > 60 ∨ ¬ endP nx ac q got out then (nx, ac, q, got, out, false)
  else if ack > ac ∧ ack ≤ nx then recvI nx ack (q.drop (ack - ac).toNat) got out num t else recvI nx ac q got out num t

theorem areShort_l0 (l : List ByteArray) (hl : l.length ≤ 35184372088832) (d : Nat) : ∀ i : Nat, l.length - i = d → i ≤ l.length → Gets (fun k => impl_areShort.l0 k l (l.length : Int) (i : Int)) (· = shortL (l.drop i)) := by
  induction d with
  | zero =>
    intro i hd hi
    refine Gets.step (fun k => impl_areShort.l0.eq_2 ..) (Gets.neg (by omega) (Gets.ret ?_))
    rw [List.drop_of_length_le (by omega)]; rfl
  | succ d ih =>
    intro i hd hi
    refine Gets.step (fun k => impl_areShort.l0.eq_2 ..) (Gets.pos (by omega) (Gets.pos (by omega) (Gets.pos (by omega) ?_)))
    have e : rdOf ByteArray.empty l (i : Int) = l[i] := rdS_get (by omega)
    simp only [e]
    rw [wrapId (by omega) (by omega), drop_at l i (by omega), shortL_cons]
    refine Gets.ite (fun h => Gets.ret (by rw [decide_eq_false (by omega)]; rfl)) (fun h => ?_)
    rw [show ((i : Int) + 1) = ((i + 1 : Nat) : Int) by omega]
    refine (ih (i + 1) (by omega) (by omega)).mono (fun r hr => ?_)
    rw [hr, decide_eq_true (by omega)]; rfl
theorem areShort (l : List ByteArray) (hl : l.length ≤ 35184372088832) : Gets (fun k => impl_areShort.f k l) (· = shortL l) := by
  unfold impl_areShort.f
  exact areShort_l0 l hl l.length 0 (by omega) (by omega)

theorem inR (x a b : Int) : impl_inRange.f x a b = some (decide (a ≤ x ∧ x ≤ b)) := by
  unfold impl_inRange.f
  by_cases h : x ≥ a
  · rw [if_pos h]; simp [show a ≤ x from h]
  · rw [if_neg h]; simp [show ¬ a ≤ x from h]

theorem implEndOk (nx ac : Int) (q : List ByteArray) (got : Int) (out : List ByteArray) (hn : -9223372036854775808 ≤ nx ∧ nx ≤ 9223372036854775807) (hq : q.length ≤ 35184372088832) (ho : out.length ≤ 35184372088832) : Gets (fun k => impl_EndOk.f k nx ac q got out) (fun r => r = true ↔ endP nx ac q got out) := by
  have no : ∀ c, c = true → ¬ endP nx ac q got out → Gets (fun k => impl_EndOk.j0 k c nx ac q got out) (fun r => r = true ↔ endP nx ac q got out) := fun c hc h =>
    Gets.step (fun k => impl_EndOk.j0.eq_2 ..) (Gets.pos hc (Gets.ret (by simp [h])))
  have nf : ¬ endP nx ac q got out → Gets (fun _ => some false) (fun r => r = true ↔ endP nx ac q got out) := fun h => Gets.ret (by simp [h])
  unfold impl_EndOk.f
  simp only [inR, Option.bind_some, decide_eq_true_eq]
  refine Gets.ite (fun h1 => ?_) (fun h1 => no _ rfl (fun h => h1 h.1))
  rw [wrapId (x := ac + 4) (by omega) (by omega)]
  refine Gets.ite (fun h2 => ?_) (fun h2 => no _ rfl (fun h => h2 h.2.1))
  rw [wrapId (x := nx - ac) (by omega) (by omega)]
  by_cases h3 : nx - ac ≤ (q.length : Int) ∧ (q.length : Int) ≤ 30
  · refine Gets.step (fun k => impl_EndOk.j0.eq_2 ..) (Gets.neg (by simp only [decide_eq_true h3]; simp) ?_)
    simp only [inR, Option.bind_some, decide_eq_true_eq]
    refine Gets.ite (fun h4 => Gets.ite (fun h5 => ?_) (fun h5 => nf (fun h => h5 h.2.2.2.2.1))) (fun h4 => nf (fun h => h4 h.2.2.2.1))
    refine Gets.bindE (areShort q hq).ev (Gets.ite (fun h6 => ?_) (fun h6 => nf (fun h => h6 h.2.2.2.2.2.1)))
    exact Gets.bindE (areShort out ho).ev (Gets.ret ⟨fun h7 => ⟨h1, h2, h3, h4, h5, h6, h7⟩, fun h => h.2.2.2.2.2.2⟩)
  · exact no _ (by simp only [decide_eq_false h3]; rfl) (fun h => h3 h.2.2.1)

theorem implCopyEnd (a b : Int) (q : List ByteArray) (c : Int) (o : List ByteArray) (hq : q.length ≤ 1048576) (ho : o.length ≤ 1048576) : impl_copyEnd.f a b q c o = some (a, b, q, c, o) := by
  unfold impl_copyEnd.f slices_Clone_string_string.f
  simp only [Option.bind_some, List.length_nil, List.nil_append]
  rw [if_pos (by omega), if_pos (by omega)]
  rfl
theorem implOffer (nx ac : Int) (q : List ByteArray) (got : Int) (out : List ByteArray) (t : ByteArray) (hn : -9223372036854775808 ≤ nx ∧ nx ≤ 9223372036854775807) (hq : q.length ≤ 1048576) (ho : out.length ≤ 1048576) : Gets (fun k => impl_Offer.f k nx ac q got out t) (· = offerT nx ac q got out t) := by
  unfold impl_Offer.f
  have hno : ¬ (t.size ≤ 60 ∧ q.length < 30 ∧ ac + q.length < 1000 ∧ endP nx ac q got out) → offerT nx ac q got out t = (0, 0, [], 0, [], false) := fun h => by unfold offerT; rw [if_neg h]
  refine Gets.ite (fun h1 => Gets.ret (hno (by omega)).symm) (fun h1 => Gets.ite (fun h2 => Gets.ret (hno (by omega)).symm) (fun h2 => ?_))
  refine Gets.ite (fun h3 => Gets.ret (hno (fun h => ?_)).symm) (fun h3 => ?_)
  · have := h.2.2.2.1
    rw [wrapId (by omega) (by omega)] at h3
    omega
  · refine Gets.bind (implEndOk nx ac q got out hn (by omega) (by omega)) (fun r hr => Gets.ite (fun h4 => ?_) (fun h4 => Gets.ret (hno (fun h => h4 (hr.2 h.2.2.2))).symm))
    have he := hr.1 h4
    have := he.1
    rw [wrapId (by omega) (by omega)] at h3
    rw [implCopyEnd _ _ _ _ _ hq ho]
    simp only [Option.bind_some]
    refine Gets.pos (by omega) (Gets.ret ?_)
    unfold offerT
    rw [if_pos ⟨by omega, by omega, by omega, he⟩]

theorem implRecv_j1 (nx ac : Int) (q : List ByteArray) (got : Int) (out : List ByteArray) (num ack : Int) (t : ByteArray) (h : endP nx ac q got out) (b : Bool) (hb : b = true ↔ (ack > ac ∧ ack ≤ nx)) :
    Gets (fun k => impl_Receive.j1 k b nx ac q got out num ack t nx ac q got out) (· = if ack > ac ∧ ack ≤ nx then recvI nx ack (q.drop (ack - ac).toNat) got out num t else recvI nx ac q got out num t) := by
  obtain ⟨h1, h2, h3, h4, h5, _⟩ := h
  have fin : ∀ (a' : Int) (q' : List ByteArray), Gets (fun _ => if num = wrap64 (got + 1) then (if got ≥ 1000 then (some (nx, a', q', got, out, false)) else (if out.length < 8796093022208 then (some (nx, a', q', wrap64 (got + 1), (out ++ [t]), true)) else (none))) else (some (nx, a', q', got, out, false))) (· = recvI nx a' q' got out num t) := by
    intro a' q'
    rw [wrapId (x := got + 1) (by omega) (by omega)]
    unfold recvI
    refine Gets.ite (fun hn => Gets.ite (fun hg => Gets.ret ?_) (fun hg => Gets.pos (by omega) (Gets.ret ?_))) (fun hn => Gets.ret ?_)
    · rw [if_neg (by omega)]
    · rw [if_pos ⟨hn, by omega⟩]
    · rw [if_neg (fun e => hn e.1)]
  refine Gets.step (fun k => impl_Receive.j1.eq_2 ..) (Gets.ite (fun h => ?_) (fun h => ?_))
  · have hk := hb.1 h
    rw [if_pos hk, wrapId (x := ack - ac) (by omega) (by omega)]
    refine Gets.pos (by omega) (Gets.pos (by omega) ?_)
    simp only [Option.bind_some]
    exact fin _ _
  · rw [if_neg (fun e => h (hb.2 e))]
    exact fin _ _
theorem implRecv (nx ac : Int) (q : List ByteArray) (got : Int) (out : List ByteArray) (num ack : Int) (t : ByteArray) (hn : -9223372036854775808 ≤ nx ∧ nx ≤ 9223372036854775807) (hq : q.length ≤ 1048576) (ho : out.length ≤ 1048576) :
    Gets (fun k => impl_Receive.f k nx ac q got out num ack t) (· = recvT nx ac q got out num ack t) := by
  unfold impl_Receive.f recvT
  rw [implCopyEnd nx ac q got out hq ho]
  simp only [Option.bind_some]
  have no : ∀ b, b = true → Gets (fun k => impl_Receive.j0 k b nx ac q got out num ack t nx ac q got out) (· = (nx, ac, q, got, out, false)) := fun b hb => Gets.step (fun k => impl_Receive.j0.eq_2 ..) (Gets.pos hb (Gets.ret rfl))
  refine Gets.ite (fun h => ?_) (fun h1 => Gets.ite (fun h => ?_) (fun h2 => ?_))
  · rw [if_pos (.inl h)]; exact no _ rfl
  · rw [if_pos (.inr (.inl (by omega)))]; exact no _ rfl
  · refine Gets.bind (implEndOk nx ac q got out hn (by omega) (by omega)) (fun r hr => ?_)
    by_cases hE : endP nx ac q got out
    · rw [if_neg (by rintro (h | h | h); exact h1 h; omega; exact h hE), hr.2 hE]
      refine Gets.step (fun k => impl_Receive.j0.eq_2 ..) (Gets.neg (by simp) (Gets.ite (fun h => ?_) (fun h => ?_)))
      · exact implRecv_j1 nx ac q got out num ack t hE _ ⟨fun h3 => ⟨h, of_decide_eq_true h3⟩, fun h3 => decide_eq_true h3.2⟩
      · exact implRecv_j1 nx ac q got out num ack t hE _ ⟨fun h3 => by simp at h3, fun h3 => absurd h3.1 h⟩
    · rw [if_pos (.inr (.inr hE))]
      have hr0 : r = false := by
        cases r with
        | false => rfl
        | true => exact absurd (hr.1 rfl) hE
      exact no _ (by rw [hr0]; rfl)

theorem rdP_get {l : List S36} {i : Int} (h : i.toNat < l.length) : rd_T36 l i = l[i.toNat] := by
  unfold rd_T36; rw [List.getD_eq_getElem?_getD, List.getElem?_eq_getElem h]; rfl

def elP (ac : Int) (q : List ByteArray) (got : Int) (fr : Int) (i : Nat) : S36 := ⟨fr + i, got, rdOf ByteArray.empty q (fr + i - ac - 1)⟩
def againT (nx ac : Int) (q : List ByteArray) (got : Int) (out : List ByteArray) : List S36 :=
  if endP nx ac q got out then (if nx = ac then [⟨0, got, (⟨#[]⟩ : ByteArray)⟩] else (List.range (nx - ac).toNat).map (elP ac q got (ac + 1))) else []
theorem againT_no {nx ac : Int} {q : List ByteArray} {got : Int} {out : List ByteArray} (h : ¬ endP nx ac q got out) : againT nx ac q got out = [] := by unfold againT; rw [if_neg h]
theorem againT_eq {nx ac : Int} {q : List ByteArray} {got : Int} {out : List ByteArray} (h : endP nx ac q got out) (e : nx = ac) : againT nx ac q got out = [⟨0, got, (⟨#[]⟩ : ByteArray)⟩] := by unfold againT; rw [if_pos h, if_pos e]
theorem againT_ne {nx ac : Int} {q : List ByteArray} {got : Int} {out : List ByteArray} (h : endP nx ac q got out) (e : ¬ nx = ac) : againT nx ac q got out = (List.range (nx - ac).toNat).map (elP ac q got (ac + 1)) := by unfold againT; rw [if_pos h, if_neg e]
theorem againT_len (nx ac : Int) (q : List ByteArray) (got : Int) (out : List ByteArray) : (againT nx ac q got out).length ≤ 4 := by
  by_cases h : endP nx ac q got out
  · by_cases e : nx = ac
    · rw [againT_eq h e]; simp
    · rw [againT_ne h e]
      have := h.2.1
      simp; omega
  · rw [againT_no h]; simp

theorem parcelsF (s0 ac : Int) (q : List ByteArray) (got : Int) (o : List ByteArray) (fr up : Int) (h0 : 0 ≤ ac ∧ ac ≤ 1000000000) (h1 : ac + 1 ≤ fr) (h2 : up ≤ ac + q.length) (h3 : q.length ≤ 1000000000) : impl_End_parcels.f s0 ac q got o fr up = some ((List.range (up + 1 - fr).toNat).map (elP ac q got fr)) := by
  unfold impl_End_parcels.f
  rw [if_pos ⟨h0.1, h1, h2, h0.2, h3⟩]
  rfl
theorem implAgain (nx ac : Int) (q : List ByteArray) (got : Int) (out : List ByteArray) (hn : -9223372036854775808 ≤ nx ∧ nx ≤ 9223372036854775807) (hq : q.length ≤ 1048576) (ho : out.length ≤ 1048576) : Gets (fun k => impl_SendAgain.f k nx ac q got out) (· = againT nx ac q got out) := by
  unfold impl_SendAgain.f
  refine Gets.bind (implEndOk nx ac q got out hn (by omega) (by omega)) (fun t ht => Gets.ite (fun h => ?_) (fun h => Gets.ret (againT_no (fun h2 => h (ht.2 h2))).symm))
  have he := ht.1 h
  have h1 := he.1
  have h2 := he.2.1
  have h3 := he.2.2.1
  refine Gets.ite (fun e => Gets.ret (againT_eq he e).symm) (fun e => ?_)
  rw [wrapId (x := ac + 1) (by omega) (by omega), parcelsF nx ac q got out (ac + 1) nx (by omega) (by omega) (by omega) (by omega)]
  refine Gets.ret ?_
  rw [againT_ne he e, show nx + 1 - (ac + 1) = nx - ac by omega]

def upNew (ac : Int) (q : List ByteArray) : Int := ac + (if (q.length : Int) ≤ 4 then (q.length : Int) else 4)
def newT (nx ac : Int) (q : List ByteArray) (got : Int) (out : List ByteArray) : Int × Int × List ByteArray × Int × List ByteArray × List S36 :=
  if endP nx ac q got out then (upNew ac q, ac, q, got, out, (List.range (upNew ac q - nx).toNat).map (elP ac q got (nx + 1))) else (nx, ac, q, got, out, [])
theorem newT_no {nx ac : Int} {q : List ByteArray} {got : Int} {out : List ByteArray} (h : ¬ endP nx ac q got out) : newT nx ac q got out = (nx, ac, q, got, out, []) := by unfold newT; rw [if_neg h]
theorem newT_yes {nx ac : Int} {q : List ByteArray} {got : Int} {out : List ByteArray} (h : endP nx ac q got out) : newT nx ac q got out = (upNew ac q, ac, q, got, out, (List.range (upNew ac q - nx).toNat).map (elP ac q got (nx + 1))) := by unfold newT; rw [if_pos h]
theorem upNew_bd {nx ac : Int} {q : List ByteArray} {got : Int} {out : List ByteArray} (h : endP nx ac q got out) : nx ≤ upNew ac q ∧ upNew ac q ≤ ac + 4 ∧ upNew ac q ≤ ac + q.length := by
  have h2 := h.2.1
  have h3 := h.2.2.1
  unfold upNew
  split <;> omega
theorem newT_len (nx ac : Int) (q : List ByteArray) (got : Int) (out : List ByteArray) : (newT nx ac q got out).2.2.2.2.2.length ≤ 4 ∧ (newT nx ac q got out).2.2.1 = q ∧ (newT nx ac q got out).2.2.2.2.1 = out := by
  by_cases h : endP nx ac q got out
  · rw [newT_yes h]
    have := upNew_bd h
    have := h.2.1
    exact ⟨by simp; omega, rfl, rfl⟩
  · rw [newT_no h]; simp

theorem implNew (nx ac : Int) (q : List ByteArray) (got : Int) (out : List ByteArray) (hn : -9223372036854775808 ≤ nx ∧ nx ≤ 9223372036854775807) (hq : q.length ≤ 1048576) (ho : out.length ≤ 1048576) : Gets (fun k => impl_SendNew.f k nx ac q got out) (· = newT nx ac q got out) := by
  unfold impl_SendNew.f
  rw [implCopyEnd _ _ _ _ _ hq ho]
  simp only [Option.bind_some]
  refine Gets.bind (implEndOk nx ac q got out hn (by omega) (by omega)) (fun t ht => Gets.ite (fun h => ?_) (fun h => Gets.ret (newT_no (fun h2 => h (ht.2 h2))).symm))
  have he := ht.1 h
  have h1 := he.1
  have h2 := he.2.1
  have hb := upNew_bd he
  have e : mn (q.length : Int) 4 = (if (q.length : Int) ≤ 4 then (q.length : Int) else 4) := by unfold mn; split <;> (try split) <;> omega
  have e2 : wrap64 (ac + mn (q.length : Int) 4) = upNew ac q := by rw [e]; exact wrapId (by unfold upNew at hb; omega) (by unfold upNew at hb; omega)
  rw [e2, wrapId (x := nx + 1) (by omega) (by omega), parcelsF nx ac q got out (nx + 1) (upNew ac q) (by omega) (by omega) (by omega) (by omega)]
  refine Gets.ret ?_
  rw [newT_yes he, show upNew ac q + 1 - (nx + 1) = upNew ac q - nx by omega]

/-! ### the reader of draws: it always answers -/
theorem and_i64 (x : Int) (m : Nat) (hm : m < 9223372036854775808) : 0 ≤ Go.bits .and .i64 x (m : Int) ∧ Go.bits .and .i64 x (m : Int) ≤ (m : Int) := by
  have h1 : (BitVec.ofInt IntKind.i64.bits x &&& BitVec.ofInt IntKind.i64.bits (m : Int)).toNat ≤ m := by
    rw [BitVec.toNat_and]
    refine Nat.le_trans Nat.and_le_right ?_
    rw [BitVec.ofInt_natCast, BitVec.toNat_ofNat]
    exact Nat.mod_le _ _
  unfold Go.bits
  simp only [IntKind.wrap_i64]
  omega
theorem and255 (x : Int) : 0 ≤ Go.bits .and .i64 x 255 ∧ Go.bits .and .i64 x 255 < 256 := by
  have h := and_i64 x 255 (by decide)
  rw [show ((255 : Nat) : Int) = 255 from rfl] at h
  omega
theorem wrap_bd (x : Int) : -9223372036854775808 ≤ wrap64 x ∧ wrap64 x ≤ 9223372036854775807 := by unfold wrap64; omega
theorem dByte (l : List Int) (p z : Int) (hl : l.length ≤ 1048576) (hp : 0 ≤ p ∧ p ≤ l.length) : ∃ v p' z', spec_l01Byte.f l p z = some (v, p', z') ∧ (0 ≤ v ∧ v < 256) ∧ 0 ≤ p' ∧ p' ≤ l.length := by
  unfold spec_l01Byte.f
  by_cases h : p < (l.length : Int)
  · rw [if_pos h, if_pos hp.1]
    refine ⟨_, _, _, rfl, and255 _, ?_⟩
    rw [wrapId (by omega) (by omega)]; omega
  · rw [if_neg h]
    exact ⟨_, _, _, rfl, and255 _, hp⟩
theorem dBelow (l : List Int) (p z n : Int) (hl : l.length ≤ 1048576) (hp : 0 ≤ p ∧ p ≤ l.length) (hn : 0 < n) : ∃ v p' z', spec_l01Below.f l p z n = some (v, p', z') ∧ (0 ≤ v ∧ v < n) ∧ 0 ≤ p' ∧ p' ≤ l.length := by
  unfold spec_l01Below.f
  rw [if_neg (by omega)]
  by_cases h : n ≤ 256
  · rw [if_pos h]
    obtain ⟨v, p1, z1, e1, hv, hp1⟩ := dByte l p z hl hp
    rw [e1]
    simp only [Option.bind_some]
    rw [if_neg (by omega)]
    refine ⟨_, _, _, rfl, ?_, hp1⟩
    rw [tmod_nn hv.1]
    exact ⟨Int.emod_nonneg _ (by omega), Int.emod_lt_of_pos _ hn⟩
  · rw [if_neg h]
    obtain ⟨v1, p1, z1, e1, hv1, hp1⟩ := dByte l p z hl hp
    rw [e1]
    simp only [Option.bind_some]
    obtain ⟨v2, p2, z2, e2, hv2, hp2⟩ := dByte l p1 z1 hl hp1
    rw [e2]
    simp only [Option.bind_some]
    obtain ⟨v3, p3, z3, e3, hv3, hp3⟩ := dByte l p2 z2 hl hp2
    rw [e3]
    simp only [Option.bind_some]
    obtain ⟨v4, p4, z4, e4, hv4, hp4⟩ := dByte l p3 z3 hl hp3
    rw [e4]
    simp only [Option.bind_some]
    rw [if_neg (by omega)]
    refine ⟨_, _, _, rfl, ?_, hp4⟩
    rw [wrapId (x := v1 * 16777216) (by omega) (by omega), wrapId (x := v2 * 65536) (by omega) (by omega), wrapId (x := v1 * 16777216 + v2 * 65536) (by omega) (by omega), wrapId (x := v3 * 256) (by omega) (by omega), wrapId (x := v1 * 16777216 + v2 * 65536 + v3 * 256) (by omega) (by omega), wrapId (by omega) (by omega), tmod_nn (by omega)]
    exact ⟨Int.emod_nonneg _ (by omega), Int.emod_lt_of_pos _ hn⟩
theorem dNew_l0 (l : List Int) (hl : l.length ≤ 1048576) (d : Nat) : ∀ (i : Nat) (h : Int), l.length - i = d → i ≤ l.length → Gets (fun k => spec_l01New.l0 k l h (i : Int)) (fun r => r.1 = l ∧ r.2.1 = 0) := by
  induction d with
  | zero =>
    intro i h hd hi
    exact Gets.step (fun k => spec_l01New.l0.eq_2 ..) (Gets.neg (by omega) (Gets.ret ⟨rfl, rfl⟩))
  | succ d ih =>
    intro i h hd hi
    refine Gets.step (fun k => spec_l01New.l0.eq_2 ..) (Gets.pos (by omega) (Gets.ite (fun _ => Gets.pos (by omega) ?_) (fun _ => Gets.ret ⟨rfl, rfl⟩)))
    rw [wrapId (x := (i : Int) + 1) (by omega) (by omega), show ((i : Int) + 1) = ((i + 1 : Nat) : Int) by omega]
    exact ih (i + 1) _ (by omega) (by omega)
theorem dNew (l : List Int) (hl : l.length ≤ 1048576) : Gets (fun k => spec_l01New.f k l) (fun r => r.1 = l ∧ r.2.1 = 0) := by
  unfold spec_l01New.f
  exact dNew_l0 l hl _ 0 _ rfl (by omega)

theorem dPickS (l : List Int) (p z : Int) (m : List ByteArray) (n : Nat) (hl : l.length ≤ 1048576) (hp : 0 ≤ p ∧ p ≤ l.length) (hm : 0 < m.length) (hs : ∀ t ∈ m, t.size ≤ n) : ∃ v p' z', spec_l01Pick.f l p z m = some (v, p', z') ∧ v.size ≤ n ∧ 0 ≤ p' ∧ p' ≤ l.length := by
  unfold spec_l01Pick.f
  obtain ⟨v, p', z', e, hv, hp'⟩ := dBelow l p z (m.length : Int) hl hp (by omega)
  rw [e]
  simp only [Option.bind_some]
  rw [if_pos hv.1, if_pos hv.2]
  refine ⟨_, _, _, rfl, ?_, hp'⟩
  have e2 : rdOf ByteArray.empty m v = m[v.toNat]'(by omega) := rdS_get (by omega)
  rw [e2]
  exact hs _ (List.getElem_mem _)

theorem dLong_l0 (n : Nat) (c : Int) (d : Nat) : ∀ (i : Nat) (acc : List Int), n - i = d → i ≤ n → acc.length = n → n ≤ 1000000 → Gets (fun k => spec_l01Long.l0 k (n : Int) c acc (i : Int)) (fun r => r.size = n) := by
  induction d with
  | zero =>
    intro i acc hd hi ha hn
    exact Gets.step (fun k => spec_l01Long.l0.eq_2 ..) (Gets.neg (by omega) (Gets.ret (by rw [strOfNums_size]; exact ha)))
  | succ d ih =>
    intro i acc hd hi ha hn
    refine Gets.step (fun k => spec_l01Long.l0.eq_2 ..) (Gets.pos (by omega) (Gets.pos (by omega) (Gets.pos (by omega) ?_)))
    rw [wrapId (x := (i : Int) + 1) (by omega) (by omega), show ((i : Int) + 1) = ((i + 1 : Nat) : Int) by omega]
    exact ih (i + 1) _ (by omega) (by omega) (by simpa using ha) hn
theorem dLong (n : Nat) (c : Int) (hn : n ≤ 1000000) : Gets (fun k => spec_l01Long.f k (n : Int) c) (fun r => r.size = n) := by
  unfold spec_l01Long.f
  refine Gets.pos (by omega) (Gets.pos (by omega) ?_)
  exact dLong_l0 n c _ 0 _ rfl (by omega) (by simp) hn

def nxt (Q : List ByteArray) (m : Nat) : Nat := min (m + 4) Q.length
theorem short_of {l : List ByteArray} (h : ∀ s ∈ l, s.size ≤ 60) : shortL l = true := (shortL_iff l).2 h
theorem endA (Q : List ByteArray) (m n : Nat) (hQ : Q.length ≤ 8) (hs : ∀ s ∈ Q, s.size ≤ 60) (hm : m ≤ n) (hn : n ≤ Q.length) (h4 : n ≤ m + 4) : endP n m (Q.drop m) 0 [] := by
  refine ⟨by omega, by omega, by rw [List.length_drop]; omega, by omega, rfl, short_of (fun s h => hs s (List.mem_of_mem_drop h)), rfl⟩
theorem endB (Q : List ByteArray) (m : Nat) (hQ : Q.length ≤ 8) (hs : ∀ s ∈ Q, s.size ≤ 60) (hm : m ≤ Q.length) : endP 0 0 [] m (Q.take m) := by
  refine ⟨by omega, by omega, by simp, by omega, by rw [List.length_take]; omega, rfl, short_of (fun s h => hs s (List.mem_of_mem_take h))⟩
/-- What b makes of a parcel of a's. -/
def stepB (m : Nat) (p : S36) : Nat := if p.f0 = (m : Int) + 1 then m + 1 else m
def goodP (Q : List ByteArray) (p : S36) : Prop := 0 ≤ p.f0 ∧ p.f0 ≤ Q.length ∧ p.f1 = 0 ∧ p.f2.size ≤ 60 ∧ ∀ j : Nat, p.f0 = (j : Int) + 1 → ∀ h : j < Q.length, p.f2 = Q[j]
theorem recvB (Q : List ByteArray) (hQ : Q.length ≤ 8) (hs : ∀ s ∈ Q, s.size ≤ 60) (m : Nat) (hm : m ≤ Q.length) (p : S36) (hp : goodP Q p) :
    stepB m p ≤ Q.length ∧ ∃ b, recvT 0 0 [] m (Q.take m) p.f0 p.f1 p.f2 = (0, 0, [], ((stepB m p : Nat) : Int), Q.take (stepB m p), b) := by
  obtain ⟨g1, g2, g3, g4, g5⟩ := hp
  have hs1 : p.f0 = (m : Int) + 1 → stepB m p = m + 1 := fun h => by unfold stepB; rw [if_pos h]
  have hs2 : ¬ p.f0 = (m : Int) + 1 → stepB m p = m := fun h => by unfold stepB; rw [if_neg h]
  unfold recvT
  rw [if_neg (by rintro (h | h | h); omega; omega; exact h (endB Q m hQ hs hm)), if_neg (by omega)]
  unfold recvI
  by_cases h : p.f0 = (m : Int) + 1
  · have hlt : m < Q.length := by omega
    rw [if_pos ⟨h, by omega⟩, hs1 h, g5 m h hlt]
    exact ⟨hlt, true, by rw [List.take_succ_eq_append_getElem hlt]; rfl⟩
  · rw [if_neg (fun e => h e.1), hs2 h]
    exact ⟨hm, false, rfl⟩
theorem parcel_good (Q : List ByteArray) (m n : Nat) (hQ : Q.length ≤ 8) (hs : ∀ s ∈ Q, s.size ≤ 60) (hm : m ≤ n) (hn : n ≤ Q.length) (i : Nat) (hi : i < n - m) : goodP Q (elP m (Q.drop m) 0 ((m : Int) + 1) i) := by
  have e : rdOf ByteArray.empty (Q.drop m) ((m : Int) + 1 + i - m - 1) = Q[m + i] := by
    rw [show (m : Int) + 1 + i - m - 1 = (i : Int) by omega, rdS_get (by rw [List.length_drop]; omega)]
    simp
  unfold elP
  refine ⟨by simp only; omega, by simp only; omega, rfl, ?_, ?_⟩
  · simp only [e]; exact hs _ (List.getElem_mem _)
  · intro j hj h
    simp only at hj
    obtain rfl : j = m + i := by omega
    exact e
theorem fold_up (ac : Int) (q : List ByteArray) (m : Nat) : ∀ d : Nat, ((List.range d).map (elP ac q 0 ((m : Int) + 1))).foldl stepB m = m + d := by
  intro d
  induction d with
  | zero => rfl
  | succ d ih =>
    rw [List.range_succ, List.map_append, List.foldl_append, ih]
    simp only [List.map_cons, List.map_nil, List.foldl_cons, List.foldl_nil, stepB, elP]
    rw [if_pos (by omega)]
    omega
theorem fold_no (L : List S36) (m : Nat) (h : ∀ p ∈ L, p.f0 ≠ (m : Int) + 1) : L.foldl stepB m = m := by
  induction L with
  | nil => rfl
  | cons p L ih =>
    rw [List.foldl_cons]
    have e : stepB m p = m := by unfold stepB; rw [if_neg (h p (List.mem_cons_self ..))]
    rw [e]
    exact ih (fun x hx => h x (List.mem_cons_of_mem _ hx))
theorem rdPn_get {l : List S36} {i : Nat} (h : i < l.length) : rd_T36 l (i : Int) = l[i] := by
  unfold rd_T36
  rw [Int.toNat_natCast, List.getD_eq_getElem?_getD, List.getElem?_eq_getElem h]; rfl
theorem ends_l3 (Q : List ByteArray) (hQ : Q.length ≤ 8) (hs : ∀ s ∈ Q, s.size ≤ 60) (x : Int) (m n : Nat) (hm : m ≤ n) (hn : n ≤ Q.length) (h4 : n ≤ m + 4) (r : Bool)
    (next : Gets (fun k => laws_FnEnds.l1 k (Q.length : Int) (wrap64 (x + 1)) n n (Q.drop n) 0 [] 0 0 [] n (Q.take n)) (· = r)) :
    Gets (fun k => laws_FnEnds.l3 k (Q.length : Int) x [⟨0, n, (⟨#[]⟩ : ByteArray)⟩] 0 n m (Q.drop m) 0 [] 0 0 [] n (Q.take n)) (· = r) := by
  have hl : (Q.drop m).length ≤ 8 := by rw [List.length_drop]; omega
  refine Gets.step (fun k => laws_FnEnds.l3.eq_2 ..) (Gets.pos (by simp) (Gets.pos (by omega) ?_))
  have e0 : rd_T36 [⟨0, n, (⟨#[]⟩ : ByteArray)⟩] (0 : Int) = ⟨0, n, (⟨#[]⟩ : ByteArray)⟩ := rfl
  rw [e0]
  refine Gets.bindE (implRecv n m (Q.drop m) 0 [] 0 n (⟨#[]⟩ : ByteArray) (by omega) (by omega) (by simp)).ev ?_
  have hr : recvT n m (Q.drop m) 0 [] 0 n (⟨#[]⟩ : ByteArray) = ((n : Int), (n : Int), Q.drop n, 0, [], false) := by
    unfold recvT
    rw [if_neg (by rintro (h | h | h); omega; exact absurd h (by decide); exact h (endA Q m n hQ hs hm hn h4))]
    by_cases h : m = n
    · subst h
      rw [if_neg (by omega)]; rfl
    · rw [if_pos (by omega), show ((n : Int) - m).toNat = n - m by omega, List.drop_drop, show m + (n - m) = n by omega]; rfl
  rw [hr]
  refine Gets.step (fun k => laws_FnEnds.l3.eq_2 ..) (Gets.neg (by rw [wrapId (by omega) (by omega)]; simp) ?_)
  have hd : (Q.drop n).length ≤ 8 := by rw [List.length_drop]; omega
  have ht : (Q.take n).length ≤ 8 := by rw [List.length_take]; omega
  refine Gets.bind (implEndOk n n (Q.drop n) 0 [] (by omega) (by omega) (by simp)) (fun t ht1 => Gets.pos (ht1.2 (endA Q n n hQ hs (Nat.le_refl _) hn (by omega))) ?_)
  refine Gets.bind (implEndOk 0 0 [] n (Q.take n) (by omega) (by simp) (by omega)) (fun t ht2 => Gets.pos (ht2.2 (endB Q n hQ hs hn)) ?_)
  exact next
theorem ends_l2 (Q : List ByteArray) (hQ : Q.length ≤ 8) (hs : ∀ s ∈ Q, s.size ≤ 60) (x : Int) (L : List S36) (hL : L.length ≤ 100) (hg : ∀ p ∈ L, goodP Q p) (m n : Nat) (hm : m ≤ n) (hn : n ≤ Q.length) (h4 : n ≤ m + 4) (r : Bool)
    (next : Gets (fun k => laws_FnEnds.l1 k (Q.length : Int) (wrap64 (x + 1)) n n (Q.drop n) 0 [] 0 0 [] n (Q.take n)) (· = r)) (d : Nat) :
    ∀ (i b : Nat), L.length - i = d → i ≤ L.length → b ≤ Q.length → (L.drop i).foldl stepB b = n → Gets (fun k => laws_FnEnds.l2 k (Q.length : Int) x L (i : Int) n m (Q.drop m) 0 [] 0 0 [] b (Q.take b)) (· = r) := by
  induction d with
  | zero =>
    intro i b hd hi hb hf
    rw [List.drop_of_length_le (by omega)] at hf
    obtain rfl : b = n := hf
    refine Gets.step (fun k => laws_FnEnds.l2.eq_2 ..) (Gets.neg (by omega) ?_)
    refine Gets.bindE (implAgain 0 0 [] b (Q.take b) (by omega) (by simp) (by rw [List.length_take]; omega)).ev ?_
    rw [againT_eq (endB Q b hQ hs hn) rfl]
    exact ends_l3 Q hQ hs x m b hm hn h4 r next
  | succ d ih =>
    intro i b hd hi hb hf
    refine Gets.step (fun k => laws_FnEnds.l2.eq_2 ..) (Gets.pos (by omega) (Gets.pos (by omega) ?_))
    rw [rdPn_get (show i < L.length by omega)]
    refine Gets.bindE (implRecv 0 0 [] b (Q.take b) _ _ _ (by omega) (by simp) (by rw [List.length_take]; omega)).ev ?_
    obtain ⟨h1, c, h2⟩ := recvB Q hQ hs b hb L[i] (hg _ (List.getElem_mem _))
    rw [h2, wrapId (x := (i : Int) + 1) (by omega) (by omega), show (i : Int) + 1 = ((i + 1 : Nat) : Int) by omega]
    rw [drop_at L i (by omega), List.foldl_cons] at hf
    exact ih (i + 1) _ (by omega) (by omega) h1 hf
theorem newA (Q : List ByteArray) (hQ : Q.length ≤ 8) (hs : ∀ s ∈ Q, s.size ≤ 60) (m : Nat) (hm : m ≤ Q.length) : newT m m (Q.drop m) 0 [] = (((nxt Q m : Nat) : Int), (m : Int), Q.drop m, 0, [], (List.range (nxt Q m - m)).map (elP m (Q.drop m) 0 ((m : Int) + 1))) := by
  rw [newT_yes (endA Q m m hQ hs (Nat.le_refl _) hm (by omega))]
  have e : upNew m (Q.drop m) = ((nxt Q m : Nat) : Int) := by
    unfold upNew nxt
    rw [List.length_drop]
    split <;> omega
  rw [e, show (((nxt Q m : Nat) : Int) - m).toNat = nxt Q m - m by omega]
theorem nxt_bd (Q : List ByteArray) (m : Nat) (hm : m ≤ Q.length) : m ≤ nxt Q m ∧ nxt Q m ≤ Q.length ∧ nxt Q m ≤ m + 4 := by unfold nxt; omega
theorem ends_l1 (Q : List ByteArray) (hQ : Q.length ≤ 8) (hs : ∀ s ∈ Q, s.size ≤ 60) (d : Nat) : ∀ (i m : Nat), 12 - i = d → i ≤ 12 → m ≤ Q.length → Q.length ≤ m + 4 * d →
    Gets (fun k => laws_FnEnds.l1 k (Q.length : Int) (i : Int) m m (Q.drop m) 0 [] 0 0 [] m (Q.take m)) (· = true) := by
  induction d with
  | zero =>
    intro i m hd hi hm hb
    obtain rfl : m = Q.length := by omega
    refine Gets.step (fun k => laws_FnEnds.l1.eq_2 ..) (Gets.neg (by omega) (Gets.pos (by rw [List.length_take]; omega) (Gets.pos rfl (Gets.pos rfl (Gets.ret ?_)))))
    simp
  | succ d ih =>
    intro i m hd hi hm hb
    obtain ⟨b1, b2, b3⟩ := nxt_bd Q m hm
    have hdl : (Q.drop m).length ≤ 8 := by rw [List.length_drop]; omega
    have next : Gets (fun k => laws_FnEnds.l1 k (Q.length : Int) (wrap64 ((i : Int) + 1)) (nxt Q m) (nxt Q m) (Q.drop (nxt Q m)) 0 [] 0 0 [] (nxt Q m) (Q.take (nxt Q m))) (· = true) := by
      rw [wrapId (x := (i : Int) + 1) (by omega) (by omega), show (i : Int) + 1 = ((i + 1 : Nat) : Int) by omega]
      exact ih (i + 1) (nxt Q m) (by omega) (by omega) b2 (by unfold nxt; omega)
    refine Gets.step (fun k => laws_FnEnds.l1.eq_2 ..) (Gets.pos (by omega) ?_)
    refine Gets.bindE (implNew m m (Q.drop m) 0 [] (by omega) (by omega) (by simp)).ev ?_
    rw [newA Q hQ hs m hm]
    refine Gets.bindE (implAgain (nxt Q m) m (Q.drop m) 0 [] (by omega) (by omega) (by simp)).ev ?_
    have hgd : ∀ p ∈ (List.range (nxt Q m - m)).map (elP m (Q.drop m) 0 ((m : Int) + 1)), goodP Q p := by
      intro p hp
      obtain ⟨j, hj, rfl⟩ := List.mem_map.1 hp
      exact parcel_good Q m (nxt Q m) hQ hs b1 b2 j (List.mem_range.1 hj)
    have hlen : ((List.range (nxt Q m - m)).map (elP (m : Int) (Q.drop m) 0 ((m : Int) + 1))).length ≤ 4 := by simp; omega
    by_cases h : nxt Q m = m
    · rw [againT_eq (endA Q m (nxt Q m) hQ hs b1 b2 b3) (by rw [h])]
      refine Gets.pos (by simp only [List.length_cons, List.length_nil]; omega) ?_
      rw [h] at next hgd hlen ⊢
      refine ends_l2 Q hQ hs i _ (by rw [List.length_append]; simp) ?_ m m (Nat.le_refl _) hm (by omega) true next _ 0 m rfl (by omega) hm ?_
      · intro p hp
        rcases List.mem_append.1 hp with hp | hp
        · exact hgd p hp
        · rw [List.mem_singleton.1 hp]
          exact ⟨by simp, by simp, rfl, by decide, fun j hj => by simp only at hj; omega⟩
      · rw [List.drop_zero, Nat.sub_self]
        rfl
    · rw [againT_ne (endA Q m (nxt Q m) hQ hs b1 b2 b3) (by omega), show (((nxt Q m : Nat) : Int) - m).toNat = nxt Q m - m by omega]
      refine Gets.pos (by simp only [List.length_map, List.length_range]; omega) ?_
      refine ends_l2 Q hQ hs i _ (by rw [List.length_append]; simp only [List.length_map, List.length_range]; omega) ?_ m (nxt Q m) b1 b2 b3 true next _ 0 m rfl (by omega) hm ?_
      · intro p hp
        rcases List.mem_append.1 hp with hp | hp
        · exact hgd p hp
        · exact hgd p hp
      · rw [List.drop_zero, List.foldl_append, fold_up, show m + (nxt Q m - m) = nxt Q m by omega]
        refine fold_no _ _ (fun p hp => ?_)
        obtain ⟨j, hj, rfl⟩ := List.mem_map.1 hp
        have := List.mem_range.1 hj
        simp only [elP]
        omega
theorem ends_l0 (l : List ByteArray) (hl : l.length ≤ 8) (d : Nat) : ∀ (i : Nat) (Q : List ByteArray), l.length - i = d → i ≤ l.length → Q.length ≤ i → (∀ s ∈ Q, s.size ≤ 60) →
    Gets (fun k => laws_FnEnds.l0 k l (Q.length : Int) (i : Int) 0 0 Q 0 []) (· = true) := by
  induction d with
  | zero =>
    intro i Q hd hi hQ hs
    refine Gets.step (fun k => laws_FnEnds.l0.eq_2 ..) (Gets.neg (by omega) ?_)
    exact ends_l1 Q (by omega) hs 12 0 0 rfl (by omega) (by omega) (by omega)
  | succ d ih =>
    intro i Q hd hi hQ hs
    refine Gets.step (fun k => laws_FnEnds.l0.eq_2 ..) (Gets.pos (by omega) (Gets.pos (by omega) ?_))
    have e1 : rdOf ByteArray.empty l (i : Int) = l[i] := rdS_get (by omega)
    have hE : endP 0 0 Q 0 [] := ⟨by omega, by omega, by omega, by omega, rfl, short_of hs, rfl⟩
    rw [e1, wrapId (x := (i : Int) + 1) (by omega) (by omega), show (i : Int) + 1 = ((i + 1 : Nat) : Int) by omega]
    refine Gets.bindE (implOffer 0 0 Q 0 [] l[i] (by omega) (by omega) (by simp)).ev ?_
    unfold offerT
    by_cases h : l[i].size ≤ 60
    · rw [if_pos ⟨h, by omega, by omega, hE⟩]
      refine Gets.pos rfl ?_
      rw [wrapId (x := (Q.length : Int) + 1) (by omega) (by omega), show (Q.length : Int) + 1 = (((Q ++ [l[i]]).length : Nat) : Int) by simp]
      refine ih (i + 1) (Q ++ [l[i]]) (by omega) (by omega) (by simp; omega) (fun s h2 => ?_)
      rcases List.mem_append.1 h2 with h2 | h2
      · exact hs s h2
      · rw [List.mem_singleton.1 h2]; exact h
    · rw [if_neg (fun e => h e.1)]
      exact Gets.neg (by simp) (ih (i + 1) Q (by omega) (by omega) (by omega) hs)
theorem dName3 (l : List Int) (p z : Int) (hl : l.length ≤ 1048576) (hp : 0 ≤ p ∧ p ≤ l.length) : ∃ v p' z', spec_l03Name.f l p z = some (v, p', z') ∧ 0 ≤ p' ∧ p' ≤ l.length := by
  unfold spec_l03Name.f
  obtain ⟨v, p2, z2, e2, _, hp2⟩ := dPickS l p z [(⟨#[97, 110, 110]⟩ : ByteArray), (⟨#[98, 111, 98]⟩ : ByteArray), (⟨#[99, 121]⟩ : ByteArray), (⟨#[100, 52]⟩ : ByteArray), (⟨#[101, 118, 101]⟩ : ByteArray)] 9 hl hp (by simp)
    (by
      intro u hu
      simp only [List.mem_cons, List.not_mem_nil, or_false] at hu
      rcases hu with rfl | rfl | rfl | rfl | rfl <;> decide)
  simp only [e2, Option.bind_some]
  exact ⟨_, _, _, rfl, hp2⟩
theorem dTalk_l2 (l : List Int) (hl : l.length ≤ 1048576) (x7 : List Int) (d : Nat) : ∀ (a : List ByteArray) (p z : Int), 21 - a.length = d → a.length ≤ 21 → (0 ≤ p ∧ p ≤ l.length) → Gets (fun k => spec_DrawTalk.l2 k a x7 l p z) (fun _ => True) := by
  induction d with
  | zero =>
    intro a p z hd ha hp
    obtain ⟨v, p1, z1, e1, hv, hp1⟩ := dBelow l p z 2 hl hp (by omega)
    refine Gets.step (fun k => spec_DrawTalk.l2.eq_2 ..) ?_
    simp only [e1, Option.bind_some]
    rw [wrapId (x := 20 + v) (by omega) (by omega)]
    exact Gets.neg (by omega) (Gets.ret trivial)
  | succ d ih =>
    intro a p z hd ha hp
    obtain ⟨v, p1, z1, e1, hv, hp1⟩ := dBelow l p z 2 hl hp (by omega)
    refine Gets.step (fun k => spec_DrawTalk.l2.eq_2 ..) ?_
    simp only [e1, Option.bind_some]
    refine Gets.ite (fun _ => Gets.pos (by omega) ?_) (fun _ => Gets.ret trivial)
    exact ih _ _ _ (by simp; omega) (by simp; omega) hp1
theorem dTalk_l1 (x0 l : List Int) (hx : x0.length ≤ 1048576) (hl : l.length ≤ 1048576) (a : List ByteArray) (ha : a.length ≤ 9) (d : Nat) : ∀ (i : Nat) (x7 : List Int) (p z : Int), 200 - i = d → i ≤ 200 → x7.length = i → (0 ≤ p ∧ p ≤ l.length) → Gets (fun k => spec_DrawTalk.l1 k x0 a x7 (i : Int) l p z) (fun _ => True) := by
  have hm : ∀ v : Int, 0 ≤ v ∧ v < 40 → 0 ≤ wrap64 (v + Int.tmod (wrap64 ((x0.length : Int) / 4)) 100) ∧ wrap64 (v + Int.tmod (wrap64 ((x0.length : Int) / 4)) 100) < 140 := by
    intro v hv
    rw [wrapId (x := (x0.length : Int) / 4) (by omega) (by omega), tmod_nn (by omega), wrapId (by omega) (by omega)]
    omega
  induction d with
  | zero =>
    intro i x7 p z hd hi h7 hp
    obtain ⟨v, p1, z1, e1, hv, hp1⟩ := dBelow l p z 40 hl hp (by omega)
    refine Gets.step (fun k => spec_DrawTalk.l1.eq_2 ..) ?_
    simp only [e1, Option.bind_some]
    have := hm v hv
    refine Gets.neg (by omega) ?_
    obtain ⟨v2, p2, z2, e2, hv2, hp2⟩ := dBelow l p1 z1 20 hl hp1 (by omega)
    simp only [e2, Option.bind_some]
    refine Gets.ite (fun _ => Gets.pos (by omega) (Gets.ret trivial)) (fun _ => Gets.ite (fun _ => Gets.bind (dLong 61 65 (by omega)) (fun t _ => Gets.pos (by omega) (Gets.ret trivial))) (fun _ => Gets.ite (fun _ => dTalk_l2 l hl x7 _ a p2 z2 rfl (by omega) hp2) (fun _ => Gets.ret trivial)))
  | succ d ih =>
    intro i x7 p z hd hi h7 hp
    obtain ⟨v, p1, z1, e1, hv, hp1⟩ := dBelow l p z 40 hl hp (by omega)
    refine Gets.step (fun k => spec_DrawTalk.l1.eq_2 ..) ?_
    simp only [e1, Option.bind_some]
    refine Gets.ite (fun _ => ?_) (fun _ => ?_)
    · obtain ⟨v2, p2, z2, e2, hv2, hp2⟩ := dBelow l p1 z1 12 hl hp1 (by omega)
      simp only [e2, Option.bind_some]
      rw [wrapId (x := (i : Int) + 1) (by omega) (by omega), show (i : Int) + 1 = ((i + 1 : Nat) : Int) by omega]
      exact Gets.pos (by omega) (ih (i + 1) _ _ _ (by omega) (by omega) (by simp [h7]) hp2)
    · obtain ⟨v2, p2, z2, e2, hv2, hp2⟩ := dBelow l p1 z1 20 hl hp1 (by omega)
      simp only [e2, Option.bind_some]
      refine Gets.ite (fun _ => Gets.pos (by omega) (Gets.ret trivial)) (fun _ => Gets.ite (fun _ => Gets.bind (dLong 61 65 (by omega)) (fun t _ => Gets.pos (by omega) (Gets.ret trivial))) (fun _ => Gets.ite (fun _ => dTalk_l2 l hl x7 _ a p2 z2 rfl (by omega) hp2) (fun _ => Gets.ret trivial)))
theorem dTalk_l0 (x0 l : List Int) (hx : x0.length ≤ 1048576) (hl : l.length ≤ 1048576) (d : Nat) : ∀ (i : Nat) (a : List ByteArray) (p z : Int), 9 - i = d → i ≤ 9 → a.length = i → (0 ≤ p ∧ p ≤ l.length) → Gets (fun k => spec_DrawTalk.l0 k x0 a (i : Int) l p z) (fun _ => True) := by
  induction d with
  | zero =>
    intro i a p z hd hi ha hp
    obtain ⟨v, p1, z1, e1, hv, hp1⟩ := dBelow l p z 9 hl hp (by omega)
    refine Gets.step (fun k => spec_DrawTalk.l0.eq_2 ..) ?_
    simp only [e1, Option.bind_some]
    exact Gets.neg (by omega) (dTalk_l1 x0 l hx hl a (by omega) 200 0 [] p1 z1 rfl (by omega) rfl hp1)
  | succ d ih =>
    intro i a p z hd hi ha hp
    obtain ⟨v, p1, z1, e1, hv, hp1⟩ := dBelow l p z 9 hl hp (by omega)
    refine Gets.step (fun k => spec_DrawTalk.l0.eq_2 ..) ?_
    simp only [e1, Option.bind_some]
    refine Gets.ite (fun _ => ?_) (fun _ => dTalk_l1 x0 l hx hl a (by omega) 200 0 [] p1 z1 rfl (by omega) rfl hp1)
    obtain ⟨v2, p2, z2, e2, hp2⟩ := dName3 l p1 z1 hl hp1
    simp only [e2, Option.bind_some]
    rw [wrapId (x := (i : Int) + 1) (by omega) (by omega), show (i : Int) + 1 = ((i + 1 : Nat) : Int) by omega]
    exact Gets.pos (by omega) (ih (i + 1) _ _ _ (by omega) (by omega) (by simp [ha]) hp2)
theorem dTalk (l : List Int) (hl : l.length ≤ 1048576) : Gets (fun k => spec_DrawTalk.f k l) (fun _ => True) := by
  unfold spec_DrawTalk.f
  refine Gets.bind (dNew l hl) (fun c hc => ?_)
  obtain ⟨c1, c2, c3⟩ := c
  obtain ⟨h1, h2⟩ := hc
  simp only at h1 h2
  subst h1 h2
  exact dTalk_l0 c1 c1 hl hl 9 0 [] 0 c3 rfl (by omega) rfl (by omega)
theorem FnEnds : Stat.FnEnds := by
  intro l _
  refine Gets.rounds ?_
  unfold laws_FnEnds.f laws_big.f
  simp only [Option.bind_some]
  refine Gets.ite (fun _ => Gets.ret rfl) (fun h => ?_)
  have hl : l.length ≤ 1048576 := by
    rcases Nat.lt_or_ge 1048576 l.length with h1 | h1
    · exact absurd (decide_eq_true (by omega)) h
    · exact h1
  have go : ∀ a : List ByteArray, a.length ≤ 8 → Gets (fun k => laws_FnEnds.j0 k a) (· = true) := fun a ha =>
    Gets.step (fun k => laws_FnEnds.j0.eq_2 ..) (ends_l0 a ha a.length 0 [] rfl (by omega) (by simp) (by simp))
  exact Gets.bind (dTalk l hl) (fun a _ => Gets.ite (fun _ => Gets.pos (by omega) (go _ (by rw [List.length_take]; omega))) (fun h => go _ (by omega)))

end Go.Proofs.Ytlidnobkkgcnlaa.Pure
