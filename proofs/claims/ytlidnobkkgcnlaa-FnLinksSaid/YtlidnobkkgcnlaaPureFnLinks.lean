/- FnLinks: what comes out of a drawn link is a beginning of what was put in, whatever is lost, told again or late; as the row's conditions ask. -/
import Derived.Test.YtlidnobkkgcnlaaStatFnLinks
import Derived.Lib.Strings
set_option linter.unusedVariables false
set_option linter.unusedSimpArgs false
namespace Go.Proofs.Ytlidnobkkgcnlaa.Pure
open Go.RowKit Go.Proofs.Ytlidnobkkgcnlaa.PFnLinks Go.Proofs.YtlidnobkkgcnlaaW.PrintWords Go.Proofs.YtlidnobkkgcnlaaW.PrintLast

/-! ### plain words: from some number of rounds on -/
def Gets {α : Type} (f : Nat → Option α) (Q : α → Prop) : Prop := ∃ r, Ev f r ∧ Q r
theorem Gets.ret {α : Type} {Q : α → Prop} {r : α} (h : Q r) : Gets (fun _ => some r) Q := ⟨r, Ev.now r, h⟩
theorem Gets.none {α : Type} {Q : α → Prop} (h : False) : Gets (fun _ => (Option.none : Option α)) Q := h.elim
theorem Gets.step {α : Type} {g f : Nat → Option α} {Q : α → Prop} (h : ∀ k, g (k + 1) = f k) (k : Gets f Q) : Gets g Q := by
  obtain ⟨r, hr, hq⟩ := k
  exact ⟨r, Ev.step h hr, hq⟩
theorem Ev.ite {α : Type} {c : Prop} [Decidable c] {f g : Nat → Option α} {r : α} (h : c → Ev f r) (k : ¬ c → Ev g r) : Ev (fun n => if c then f n else g n) r := by
  by_cases hc : c
  · simp only [hc, if_true]; exact h hc
  · simp only [hc, if_false]; exact k hc
theorem Gets.ite {α : Type} {c : Prop} [Decidable c] {f g : Nat → Option α} {Q : α → Prop} (h : c → Gets f Q) (k : ¬ c → Gets g Q) : Gets (fun n => if c then f n else g n) Q := by
  by_cases hc : c
  · simp only [hc, if_true]; exact h hc
  · simp only [hc, if_false]; exact k hc
theorem Gets.pos {α : Type} {c : Prop} [Decidable c] {f g : Nat → Option α} {Q : α → Prop} (hc : c) (h : Gets f Q) : Gets (fun n => if c then f n else g n) Q := by
  simp only [hc, if_true]; exact h
theorem Gets.neg {α : Type} {c : Prop} [Decidable c] {f g : Nat → Option α} {Q : α → Prop} (hc : ¬ c) (h : Gets g Q) : Gets (fun n => if c then f n else g n) Q := by
  simp only [hc, if_false]; exact h
theorem Gets.bind {α β : Type} {g : Nat → Option α} {f : Nat → α → Option β} {P : α → Prop} {Q : β → Prop} (h : Gets g P) (k : ∀ a, P a → Gets (fun n => f n a) Q) : Gets (fun n => (g n).bind (f n)) Q := by
  obtain ⟨a, ha, hp⟩ := h
  obtain ⟨r, hr, hq⟩ := k a hp
  exact ⟨r, Ev.bind ha hr, hq⟩
theorem Gets.bindE {α β : Type} {g : Nat → Option α} {f : Nat → α → Option β} {a : α} {Q : β → Prop} (h : Ev g a) (k : Gets (fun n => f n a) Q) : Gets (fun n => (g n).bind (f n)) Q := by
  obtain ⟨r, hr, hq⟩ := k
  exact ⟨r, Ev.bind h hr, hq⟩
theorem Gets.mono {α : Type} {f : Nat → Option α} {P Q : α → Prop} (h : Gets f P) (k : ∀ a, P a → Q a) : Gets f Q := by
  obtain ⟨r, hr, hp⟩ := h
  exact ⟨r, hr, k r hp⟩
theorem Gets.rounds {α : Type} {f : Nat → Option α} {r : α} (h : Gets f (· = r)) : ∃ k, f k = some r := by
  obtain ⟨a, ha, rfl⟩ := h
  exact ha.rounds
theorem Gets.ev {α : Type} {f : Nat → Option α} {r : α} (h : Gets f (· = r)) : Ev f r := by
  obtain ⟨a, ha, rfl⟩ := h
  exact ha
theorem Ev.gets {α : Type} {f : Nat → Option α} {r : α} {Q : α → Prop} (h : Ev f r) (hq : Q r) : Gets f Q := ⟨r, h, hq⟩
theorem Gets.same {α : Type} {o : Option α} {Q : α → Prop} {r : α} (h : o = some r) (hq : Q r) : Gets (fun _ => o) Q := by
  subst h; exact Gets.ret hq
theorem wrapId {x : Int} (h0 : -9223372036854775808 ≤ x) (h1 : x ≤ 9223372036854775807) : wrap64 x = x := by
  unfold wrap64; omega
theorem i64_bd {n : Int} (h : (Lit.int .i64 n).wf = true) : -9223372036854775808 ≤ n ∧ n ≤ 9223372036854775807 := by
  have hm : IntKind.i64.min = -9223372036854775808 := rfl
  simp [Lit.wf, hm] at h
  exact h
theorem boolEq {a b : Bool} {P Q : Prop} (ha : a = true ↔ P) (hb : b = true ↔ Q) (h : P ↔ Q) : a = b := by
  rw [Bool.eq_iff_iff, ha, hb, h]
theorem tmod_nn {a b : Int} (h : 0 ≤ a) : Int.tmod a b = a % b := Int.tmod_eq_emod_of_nonneg h
theorem tdiv_nn {a b : Int} (h : 0 ≤ a) : Int.tdiv a b = a / b := Int.tdiv_eq_ediv_of_nonneg h

/-! ### rows of numbers -/
theorem rd_get {l : List Int} {i : Int} (h : i.toNat < l.length) : rd l i = l[i.toNat] := by
  unfold rd; rw [List.getD_eq_getElem?_getD, List.getElem?_eq_getElem h]; rfl
theorem fill_step {α : Type} (l : List α) (d : α) (i : Nat) (h : i < l.length) : (l.take i ++ List.replicate (l.length - i) d).set i l[i] = l.take (i + 1) ++ List.replicate (l.length - (i + 1)) d := by
  have e : List.replicate (l.length - i) d = d :: List.replicate (l.length - (i + 1)) d := by
    rw [show l.length - i = (l.length - (i + 1)) + 1 by omega]; rfl
  rw [e, List.set_append_right _ _ (by rw [List.length_take]; omega), List.length_take, show i - min i l.length = 0 by omega, List.set_cons_zero, List.take_succ_eq_append_getElem h, List.append_assoc]
  rfl
theorem drop_at {α : Type} (l : List α) (i : Nat) (h : i < l.length) : l.drop i = l[i] :: l.drop (i + 1) := List.drop_eq_getElem_cons h
def marks (k : Int) (n : Nat) : List Int := (List.range n).map (fun (i : Nat) => k + (i : Int))
theorem marks_length (k : Int) (n : Nat) : (marks k n).length = n := by simp [marks]
theorem marks_get (k : Int) (n i : Nat) (h : i < n) : (marks k n)[i]'(by rw [marks_length]; exact h) = k + i := by simp [marks]

/-! ### texts as lists of numbers -/
theorem bytesOf_inj {a b : ByteArray} (h : bytesOf a = bytesOf b) : a = b := by
  have hl : a.data.toList = b.data.toList := by
    unfold bytesOf at h
    exact List.map_inj_right (fun x y hxy => UInt8.toNat_inj.1 (by exact_mod_cast hxy)) |>.1 h
  have hd : a.data = b.data := Array.toList_inj.1 hl
  cases a; cases b; cases hd; rfl
theorem toList_iff (a b : ByteArray) : a.toList = b.toList ↔ a = b := by
  rw [Lib.toList_data, Lib.toList_data]
  exact ⟨fun h => bytesOf_inj (by unfold bytesOf; rw [h]), fun h => by rw [h]⟩
theorem bytesOf_range {s : ByteArray} {x : Int} (h : x ∈ bytesOf s) : 0 ≤ x ∧ x < 256 := by
  unfold bytesOf at h
  obtain ⟨b, _, rfl⟩ := List.mem_map.1 h
  have := b.toNat_lt
  omega
theorem bytesOf_str {xs : List Int} (h : ∀ x ∈ xs, 0 ≤ x ∧ x < 256) : bytesOf (strOfNums xs) = xs := by
  unfold bytesOf
  rw [strOfNums_data, List.map_map]
  conv => rhs; rw [← List.map_id xs]
  refine List.map_congr_left (fun x hx => ?_)
  have := h x hx
  simp only [Function.comp, UInt8.toNat_ofNat', id]
  omega
theorem str_bytesOf (s : ByteArray) : strOfNums (bytesOf s) = s := bytesOf_inj (bytesOf_str (fun _ => bytesOf_range))
theorem bytesOf_extract (s : ByteArray) (a b : Nat) : bytesOf (s.extract a b) = ((bytesOf s).drop a).take (b - a) := by
  unfold bytesOf
  rw [Lib.extract_data, List.map_take, List.map_drop]
theorem bytesOf_app (a b : ByteArray) : bytesOf (a ++ b) = bytesOf a ++ bytesOf b := by
  unfold bytesOf
  rw [← List.map_append]
  congr 1
  first | done | simp
theorem bt_getD (s : ByteArray) (i : Int) : bt s i = (bytesOf s).getD i.toNat 0 := (rd_bytesOf s i).symm
theorem bytesOf_empty : bytesOf (⟨#[]⟩ : ByteArray) = [] := rfl
theorem size_eq (s : ByteArray) : s.size = (bytesOf s).length := (bytesOf_length s).symm
theorem size_app (a b : ByteArray) : (a ++ b).size = a.size + b.size := by simp

theorem rdS_get {l : List ByteArray} {i : Int} (h : i.toNat < l.length) : rdOf ByteArray.empty l i = l[i.toNat] := by
  unfold rdOf; rw [List.getD_eq_getElem?_getD, List.getElem?_eq_getElem h]; rfl
def shortL (l : List ByteArray) : Bool := l.all (fun s => decide ((s.size : Int) ≤ 60))
theorem shortL_iff (l : List ByteArray) : shortL l = true ↔ ∀ s ∈ l, s.size ≤ 60 := by
  unfold shortL
  rw [List.all_eq_true]
  exact ⟨fun h s hs => by have := of_decide_eq_true (h s hs); omega, fun h s hs => decide_eq_true (by have := h s hs; omega)⟩
theorem shortL_cons (s : ByteArray) (l : List ByteArray) : shortL (s :: l) = (decide ((s.size : Int) ≤ 60) && shortL l) := rfl

def endP (nx ac : Int) (q : List ByteArray) (got : Int) (out : List ByteArray) : Prop := (0 ≤ ac ∧ ac ≤ 1000) ∧ (ac ≤ nx ∧ nx ≤ ac + 4) ∧ (nx - ac ≤ (q.length : Int) ∧ (q.length : Int) ≤ 30) ∧ (0 ≤ got ∧ got ≤ 1000) ∧ (out.length : Int) = got ∧ shortL q = true ∧ shortL out = true

instance endDec (nx ac : Int) (q : List ByteArray) (got : Int) (out : List ByteArray) : Decidable (endP nx ac q got out) := by unfold endP; infer_instance
def offerT (nx ac : Int) (q : List ByteArray) (got : Int) (out : List ByteArray) (t : ByteArray) : Int × Int × List ByteArray × Int × List ByteArray × Bool :=
  if t.size ≤ 60 ∧ q.length < 30 ∧ ac + q.length < 1000 ∧ endP nx ac q got out then (nx, ac, q ++ [t], got, out, true) else (0, 0, [], 0, [], false)
theorem offer_len (nx ac : Int) (q : List ByteArray) (got : Int) (out : List ByteArray) (t : ByteArray) : (offerT nx ac q got out t).2.2.1.length ≤ 30 ∧ (offerT nx ac q got out t).2.2.2.2.1.length ≤ 1000 := by
  unfold offerT
  split
  · rename_i h
    obtain ⟨_, h2, _, h⟩ := h
    unfold endP at h
    simp only [List.length_append, List.length_cons, List.length_nil]
    omega
  · simp

def recvI (nx ac : Int) (q : List ByteArray) (got : Int) (out : List ByteArray) (num : Int) (t : ByteArray) : Int × Int × List ByteArray × Int × List ByteArray × Bool :=
  if num = got + 1 ∧ got < 1000 then (nx, ac, q, got + 1, out ++ [t], true) else (nx, ac, q, got, out, false)
def recvT (nx ac : Int) (q : List ByteArray) (got : Int) (out : List ByteArray) (num ack : Int) (t : ByteArray) : Int × Int × List ByteArray × Int × List ByteArray × Bool :=
  if num < 0 ∨ t.size > 60 ∨ ¬ endP nx ac q got out then (nx, ac, q, got, out, false)
  else if ack > ac ∧ ack ≤ nx then recvI nx ack (q.drop (ack - ac).toNat) got out num t else recvI nx ac q got out num t

theorem rdP_get {l : List S36} {i : Int} (h : i.toNat < l.length) : rd_T36 l i = l[i.toNat] := by
  unfold rd_T36; rw [List.getD_eq_getElem?_getD, List.getElem?_eq_getElem h]; rfl

def elP (ac : Int) (q : List ByteArray) (got : Int) (fr : Int) (i : Nat) : S36 := ⟨fr + i, got, rdOf ByteArray.empty q (fr + i - ac - 1)⟩
def againT (nx ac : Int) (q : List ByteArray) (got : Int) (out : List ByteArray) : List S36 :=
  if endP nx ac q got out then (if nx = ac then [⟨0, got, (⟨#[]⟩ : ByteArray)⟩] else (List.range (nx - ac).toNat).map (elP ac q got (ac + 1))) else []
theorem againT_no {nx ac : Int} {q : List ByteArray} {got : Int} {out : List ByteArray} (h : ¬ endP nx ac q got out) : againT nx ac q got out = [] := by unfold againT; rw [if_neg h]
theorem againT_eq {nx ac : Int} {q : List ByteArray} {got : Int} {out : List ByteArray} (h : endP nx ac q got out) (e : nx = ac) : againT nx ac q got out = [⟨0, got, (⟨#[]⟩ : ByteArray)⟩] := by unfold againT; rw [if_pos h, if_pos e]
theorem againT_ne {nx ac : Int} {q : List ByteArray} {got : Int} {out : List ByteArray} (h : endP nx ac q got out) (e : ¬ nx = ac) : againT nx ac q got out = (List.range (nx - ac).toNat).map (elP ac q got (ac + 1)) := by unfold againT; rw [if_pos h, if_neg e]
theorem againT_len (nx ac : Int) (q : List ByteArray) (got : Int) (out : List ByteArray) : (againT nx ac q got out).length ≤ 4 := by
  by_cases h : endP nx ac q got out
  · by_cases e : nx = ac
    · rw [againT_eq h e]; simp
    · rw [againT_ne h e]
      have := h.2.1
      simp; omega
  · rw [againT_no h]; simp

def upNew (ac : Int) (q : List ByteArray) : Int := ac + (if (q.length : Int) ≤ 4 then (q.length : Int) else 4)
def newT (nx ac : Int) (q : List ByteArray) (got : Int) (out : List ByteArray) : Int × Int × List ByteArray × Int × List ByteArray × List S36 :=
  if endP nx ac q got out then (upNew ac q, ac, q, got, out, (List.range (upNew ac q - nx).toNat).map (elP ac q got (nx + 1))) else (nx, ac, q, got, out, [])
theorem newT_no {nx ac : Int} {q : List ByteArray} {got : Int} {out : List ByteArray} (h : ¬ endP nx ac q got out) : newT nx ac q got out = (nx, ac, q, got, out, []) := by unfold newT; rw [if_neg h]
theorem newT_yes {nx ac : Int} {q : List ByteArray} {got : Int} {out : List ByteArray} (h : endP nx ac q got out) : newT nx ac q got out = (upNew ac q, ac, q, got, out, (List.range (upNew ac q - nx).toNat).map (elP ac q got (nx + 1))) := by unfold newT; rw [if_pos h]
theorem upNew_bd {nx ac : Int} {q : List ByteArray} {got : Int} {out : List ByteArray} (h : endP nx ac q got out) : nx ≤ upNew ac q ∧ upNew ac q ≤ ac + 4 ∧ upNew ac q ≤ ac + q.length := by
  have h2 := h.2.1
  have h3 := h.2.2.1
  unfold upNew
  split <;> omega
theorem newT_len (nx ac : Int) (q : List ByteArray) (got : Int) (out : List ByteArray) : (newT nx ac q got out).2.2.2.2.2.length ≤ 4 ∧ (newT nx ac q got out).2.2.1 = q ∧ (newT nx ac q got out).2.2.2.2.1 = out := by
  by_cases h : endP nx ac q got out
  · rw [newT_yes h]
    have := upNew_bd h
    have := h.2.1
    exact ⟨by simp; omega, rfl, rfl⟩
  · rw [newT_no h]; simp

theorem tk_short {l : List ByteArray} (h : ∀ s ∈ l, s.size ≤ 60) : shortL l = true := (shortL_iff l).2 h
theorem tkA (L : List ByteArray) (n m : Nat) (hL : L.length ≤ 20) (hs : ∀ s ∈ L, s.size ≤ 60) (hm : m ≤ n) (hn : n ≤ L.length) (h4 : n ≤ m + 4) : endP n m (L.drop m) 0 [] := by
  refine ⟨by omega, by omega, by rw [List.length_drop]; omega, by omega, rfl, tk_short (fun s h => hs s (List.mem_of_mem_drop h)), rfl⟩
theorem tkB (L : List ByteArray) (g : Nat) (hL : L.length ≤ 20) (hs : ∀ s ∈ L, s.size ≤ 60) (hg : g ≤ L.length) : endP 0 0 [] g (L.take g) := by
  refine ⟨by omega, by omega, by simp, by omega, by rw [List.length_take]; omega, rfl, tk_short (fun s h => hs s (List.mem_of_mem_take h))⟩
/-- What the far end makes of a parcel. -/
def tkStep (g : Nat) (p : S36) : Nat := if p.f0 = (g : Int) + 1 then g + 1 else g
def tkGood (L : List ByteArray) (p : S36) : Prop := 0 ≤ p.f0 ∧ p.f0 ≤ L.length ∧ p.f1 = 0 ∧ p.f2.size ≤ 60 ∧ ∀ j : Nat, p.f0 = (j : Int) + 1 → ∀ h : j < L.length, p.f2 = L[j]
theorem tkRecvB (L : List ByteArray) (hL : L.length ≤ 20) (hs : ∀ s ∈ L, s.size ≤ 60) (g : Nat) (hg : g ≤ L.length) (p : S36) (hp : tkGood L p) :
    (g ≤ tkStep g p ∧ tkStep g p ≤ L.length) ∧ ∃ b, recvT 0 0 [] g (L.take g) p.f0 p.f1 p.f2 = (0, 0, [], ((tkStep g p : Nat) : Int), L.take (tkStep g p), b) := by
  obtain ⟨g1, g2, g3, g4, g5⟩ := hp
  have hs1 : p.f0 = (g : Int) + 1 → tkStep g p = g + 1 := fun h => by unfold tkStep; rw [if_pos h]
  have hs2 : ¬ p.f0 = (g : Int) + 1 → tkStep g p = g := fun h => by unfold tkStep; rw [if_neg h]
  unfold recvT
  rw [if_neg (by rintro (h | h | h); omega; omega; exact h (tkB L g hL hs hg)), if_neg (by omega)]
  unfold recvI
  by_cases h : p.f0 = (g : Int) + 1
  · have hlt : g < L.length := by omega
    rw [if_pos ⟨h, by omega⟩, hs1 h, g5 g h hlt]
    exact ⟨⟨by omega, hlt⟩, true, by rw [List.take_succ_eq_append_getElem hlt]; rfl⟩
  · rw [if_neg (fun e => h e.1), hs2 h]
    exact ⟨⟨Nat.le_refl _, hg⟩, false, rfl⟩
theorem tkParcel (L : List ByteArray) (m f : Nat) (hL : L.length ≤ 20) (hs : ∀ s ∈ L, s.size ≤ 60) (hm : m ≤ f) (i : Nat) (hi : f + i < L.length) : tkGood L (elP m (L.drop m) 0 ((f : Int) + 1) i) := by
  have e : rdOf ByteArray.empty (L.drop m) ((f : Int) + 1 + i - m - 1) = L[f + i] := by
    rw [show (f : Int) + 1 + i - m - 1 = ((f + i - m : Nat) : Int) by omega, rdS_get (by rw [List.length_drop]; omega)]
    simp only [Int.toNat_natCast, List.getElem_drop]
    congr 1; omega
  unfold elP
  refine ⟨by simp only; omega, by simp only; omega, rfl, ?_, ?_⟩
  · simp only [e]; exact hs _ (List.getElem_mem _)
  · intro j hj h
    simp only at hj
    obtain rfl : j = f + i := by omega
    exact e
theorem tkRd {l : List S36} {p : S36} : rd_T36 (p :: l) (0 : Int) = p := rfl
def tkUp (L : List ByteArray) (m : Nat) : Nat := min (m + 4) L.length
theorem tkNew (L : List ByteArray) (n m : Nat) (hL : L.length ≤ 20) (hs : ∀ s ∈ L, s.size ≤ 60) (hm : m ≤ n) (hn : n ≤ L.length) (h4 : n ≤ m + 4) :
    newT n m (L.drop m) 0 [] = (((tkUp L m : Nat) : Int), (m : Int), L.drop m, 0, [], (newT n m (L.drop m) 0 []).2.2.2.2.2) ∧ (newT n m (L.drop m) 0 []).2.2.2.2.2.length ≤ 4 ∧ (∀ p ∈ (newT n m (L.drop m) 0 []).2.2.2.2.2, tkGood L p) ∧ n ≤ tkUp L m ∧ tkUp L m ≤ L.length ∧ tkUp L m ≤ m + 4 := by
  have hb : n ≤ tkUp L m ∧ tkUp L m ≤ L.length ∧ tkUp L m ≤ m + 4 := by unfold tkUp; omega
  refine ⟨?_, (newT_len _ _ _ _ _).1, ?_, hb⟩
  · rw [newT_yes (tkA L n m hL hs hm hn h4)]
    have e : upNew m (L.drop m) = ((tkUp L m : Nat) : Int) := by
      unfold upNew tkUp
      rw [List.length_drop]
      split <;> omega
    simp only [e]
  · rw [newT_yes (tkA L n m hL hs hm hn h4)]
    have hu := upNew_bd (tkA L n m hL hs hm hn h4)
    rw [List.length_drop] at hu
    intro p hp
    obtain ⟨j, hj, rfl⟩ := List.mem_map.1 hp
    have := List.mem_range.1 hj
    exact tkParcel L m n hL hs hm j (by omega)
theorem tkAgain (L : List ByteArray) (n m : Nat) (hL : L.length ≤ 20) (hs : ∀ s ∈ L, s.size ≤ 60) (hm : m ≤ n) (hn : n ≤ L.length) (h4 : n ≤ m + 4) : ∀ p ∈ againT n m (L.drop m) 0 [], tkGood L p := by
  intro p hp
  by_cases h : (n : Int) = m
  · rw [againT_eq (tkA L n m hL hs hm hn h4) h] at hp
    rw [List.mem_singleton.1 hp]
    exact ⟨by simp, by simp only; omega, rfl, by decide, fun j hj => by simp only at hj; omega⟩
  · rw [againT_ne (tkA L n m hL hs hm hn h4) h] at hp
    obtain ⟨j, hj, rfl⟩ := List.mem_map.1 hp
    have := List.mem_range.1 hj
    exact tkParcel L m m hL hs (Nat.le_refl _) j (by omega)
theorem tkAgainB (L : List ByteArray) (g : Nat) (hL : L.length ≤ 20) (hs : ∀ s ∈ L, s.size ≤ 60) (hg : g ≤ L.length) : againT 0 0 [] g (L.take g) = [⟨0, g, (⟨#[]⟩ : ByteArray)⟩] := againT_eq (tkB L g hL hs hg) rfl
def tkAck (n m : Nat) (p : S36) : Nat := if (m : Int) < p.f1 ∧ p.f1 ≤ n then p.f1.toNat else m
def tkLost (x : Int) : Prop := Int.tmod (wrap64 (Int.tdiv x 4)) 2 = 1
instance tkLostDec (x : Int) : Decidable (tkLost x) := by unfold tkLost; infer_instance
/-- One pick: the near end's Next and Acked, the far end's Got, the parcels on their way. -/
def pickS (L : List ByteArray) (x : Int) (s : Nat × Nat × Nat × List S36 × List S36) : Nat × Nat × Nat × List S36 × List S36 :=
  if Int.tmod x 4 = 0 then (tkUp L s.2.1, s.2.1, s.2.2.1, s.2.2.2.1 ++ (newT s.1 s.2.1 (L.drop s.2.1) 0 []).2.2.2.2.2, s.2.2.2.2)
  else if Int.tmod x 4 = 1 then (s.1, s.2.1, s.2.2.1, s.2.2.2.1 ++ againT s.1 s.2.1 (L.drop s.2.1) 0 [], s.2.2.2.2)
  else if Int.tmod x 4 = 2 then
    (match s.2.2.2.1 with
     | [] => s
     | p :: r => if tkLost x then (s.1, s.2.1, s.2.2.1, r, s.2.2.2.2) else (s.1, s.2.1, tkStep s.2.2.1 p, r, s.2.2.2.2 ++ [⟨0, ((tkStep s.2.2.1 p : Nat) : Int), (⟨#[]⟩ : ByteArray)⟩]))
  else
    (match s.2.2.2.2 with
     | [] => s
     | p :: r => if tkLost x then (s.1, s.2.1, s.2.2.1, s.2.2.2.1, r) else (s.1, tkAck s.1 s.2.1 p, s.2.2.1, s.2.2.2.1, r))
def okS (L : List ByteArray) (c : Nat) (s : Nat × Nat × Nat × List S36 × List S36) : Prop :=
  s.2.1 ≤ s.1 ∧ s.1 ≤ L.length ∧ s.1 ≤ s.2.1 + 4 ∧ s.2.2.1 ≤ L.length ∧ s.2.2.2.1.length ≤ 4 * c ∧ s.2.2.2.2.length ≤ c ∧ (∀ p ∈ s.2.2.2.1, tkGood L p) ∧ (∀ p ∈ s.2.2.2.2, ∃ a : Nat, p = ⟨0, (a : Int), (⟨#[]⟩ : ByteArray)⟩)
theorem tkRecvA (L : List ByteArray) (hL : L.length ≤ 20) (hs : ∀ s ∈ L, s.size ≤ 60) (n m a : Nat) (hm : m ≤ n) (hn : n ≤ L.length) (h4 : n ≤ m + 4) :
    (m ≤ tkAck n m ⟨0, (a : Int), (⟨#[]⟩ : ByteArray)⟩ ∧ tkAck n m ⟨0, (a : Int), (⟨#[]⟩ : ByteArray)⟩ ≤ n) ∧ recvT n m (L.drop m) 0 [] 0 (a : Int) (⟨#[]⟩ : ByteArray) = ((n : Int), ((tkAck n m ⟨0, (a : Int), (⟨#[]⟩ : ByteArray)⟩ : Nat) : Int), L.drop (tkAck n m ⟨0, (a : Int), (⟨#[]⟩ : ByteArray)⟩), 0, [], false) := by
  unfold recvT
  rw [if_neg (by rintro (h | h | h); omega; exact absurd h (by decide); exact h (tkA L n m hL hs hm hn h4))]
  unfold tkAck
  simp only
  by_cases h : (m : Int) < a ∧ (a : Int) ≤ n
  · rw [if_pos h, if_pos (show (a : Int) > m ∧ (a : Int) ≤ n from h), Int.toNat_natCast, show ((a : Int) - m).toNat = a - m by omega, List.drop_drop, show m + (a - m) = a by omega]
    exact ⟨by omega, rfl⟩
  · rw [if_neg h, if_neg (show ¬ ((a : Int) > m ∧ (a : Int) ≤ n) from h)]
    exact ⟨by omega, rfl⟩
theorem pick_ok (L : List ByteArray) (hL : L.length ≤ 20) (hs : ∀ s ∈ L, s.size ≤ 60) (c : Nat) (x : Int) (s : Nat × Nat × Nat × List S36 × List S36) (h : okS L c s) : okS L (c + 1) (pickS L x s) ∧ s.2.2.1 ≤ (pickS L x s).2.2.1 := by
  obtain ⟨n, m, g, th, bk⟩ := s
  obtain ⟨h1, h2, h3, h4, h5, h6, h7, h8⟩ := h
  simp only at h1 h2 h3 h4 h5 h6 h7 h8
  unfold pickS
  simp only
  by_cases c0 : Int.tmod x 4 = 0
  · rw [if_pos c0]
    obtain ⟨_, k2, k3, k4, k5, k6⟩ := tkNew L n m hL hs h1 h2 h3
    refine ⟨⟨by simp only; omega, k5, k6, h4, by simp only [List.length_append]; omega, by simp only; omega, ?_, h8⟩, Nat.le_refl _⟩
    intro p hp
    rcases List.mem_append.1 hp with hp | hp
    · exact h7 p hp
    · exact k3 p hp
  · rw [if_neg c0]
    by_cases c1 : Int.tmod x 4 = 1
    · rw [if_pos c1]
      have hl := againT_len n m (L.drop m) 0 []
      refine ⟨⟨h1, h2, h3, h4, by simp only [List.length_append]; omega, by simp only; omega, ?_, h8⟩, Nat.le_refl _⟩
      intro p hp
      rcases List.mem_append.1 hp with hp | hp
      · exact h7 p hp
      · exact tkAgain L n m hL hs h1 h2 h3 p hp
    · rw [if_neg c1]
      by_cases c2 : Int.tmod x 4 = 2
      · rw [if_pos c2]
        rcases th with _ | ⟨p, r⟩
        · exact ⟨⟨h1, h2, h3, h4, by simp, by simp only; omega, by simp, h8⟩, Nat.le_refl _⟩
        · simp only
          have h7r : ∀ q ∈ r, tkGood L q := fun q hq => h7 q (List.mem_cons_of_mem _ hq)
          rw [List.length_cons] at h5
          by_cases cl : tkLost x
          · rw [if_pos cl]
            exact ⟨⟨h1, h2, h3, h4, by simp only; omega, by simp only; omega, h7r, h8⟩, Nat.le_refl _⟩
          · rw [if_neg cl]
            obtain ⟨⟨k1, k2⟩, _⟩ := tkRecvB L hL hs g h4 p (h7 p (List.mem_cons_self ..))
            refine ⟨⟨h1, h2, h3, k2, by simp only; omega, by simp only [List.length_append, List.length_cons, List.length_nil]; omega, h7r, ?_⟩, k1⟩
            intro q hq
            rcases List.mem_append.1 hq with hq | hq
            · exact h8 q hq
            · exact ⟨_, List.mem_singleton.1 hq⟩
      · rw [if_neg c2]
        rcases bk with _ | ⟨p, r⟩
        · exact ⟨⟨h1, h2, h3, h4, by simp only; omega, by simp, h7, by simp⟩, Nat.le_refl _⟩
        · simp only
          have h8r : ∀ q ∈ r, ∃ a : Nat, q = ⟨0, (a : Int), (⟨#[]⟩ : ByteArray)⟩ := fun q hq => h8 q (List.mem_cons_of_mem _ hq)
          rw [List.length_cons] at h6
          by_cases cl : tkLost x
          · rw [if_pos cl]
            exact ⟨⟨h1, h2, h3, h4, by simp only; omega, by simp only; omega, h7, h8r⟩, Nat.le_refl _⟩
          · rw [if_neg cl]
            obtain ⟨a, rfl⟩ := h8 p (List.mem_cons_self ..)
            obtain ⟨⟨k1, k2⟩, _⟩ := tkRecvA L hL hs n m a h1 h2 h3
            exact ⟨⟨k2, h2, by simp only; omega, h4, by simp only; omega, by simp only; omega, h7, h8r⟩, Nat.le_refl _⟩
def tkFin (L : List ByteArray) (ps : List Int) (s : Nat × Nat × Nat × List S36 × List S36) : Nat := (ps.foldl (fun s x => pickS L x s) s).2.2.1
theorem tkFin_up (L : List ByteArray) (hL : L.length ≤ 20) (hs : ∀ s ∈ L, s.size ≤ 60) (ps : List Int) : ∀ (c : Nat) (s : Nat × Nat × Nat × List S36 × List S36), okS L c s → s.2.2.1 ≤ tkFin L ps s ∧ okS L (c + ps.length) (ps.foldl (fun s x => pickS L x s) s) := by
  induction ps with
  | nil => intro c s h; exact ⟨Nat.le_refl _, h⟩
  | cons x ps ih =>
    intro c s h
    obtain ⟨h1, h2⟩ := pick_ok L hL hs c x s h
    obtain ⟨h3, h4⟩ := ih (c + 1) _ h1
    refine ⟨Nat.le_trans h2 h3, ?_⟩
    rw [List.length_cons, show c + (ps.length + 1) = c + 1 + ps.length by omega]
    exact h4
theorem tkFin_cons (L : List ByteArray) (x : Int) (ps : List Int) (s : Nat × Nat × Nat × List S36 × List S36) : tkFin L (x :: ps) s = tkFin L ps (pickS L x s) := rfl
theorem tkFin_app (L : List ByteArray) (ps qs : List Int) (s : Nat × Nat × Nat × List S36 × List S36) : tkFin L (ps ++ qs) s = tkFin L qs (ps.foldl (fun s x => pickS L x s) s) := by unfold tkFin; rw [List.foldl_append]
def tkIn (L : List ByteArray) (ps : List Int) : Prop := L.length ≤ 20 ∧ ps.length ≤ 200 ∧ (∀ s ∈ L, s.size ≤ 60) ∧ ∀ x ∈ ps, 0 ≤ x
theorem ok0 (L : List ByteArray) : okS L 0 (0, 0, 0, [], []) := ⟨Nat.le_refl _, Nat.zero_le _, by simp, Nat.zero_le _, by simp, by simp, by simp, by simp⟩
def talkG (L : List ByteArray) (ps : List Int) : Nat := tkFin L ps (0, 0, 0, [], [])
open Classical in
noncomputable def talkT (L : List ByteArray) (ps : List Int) : List ByteArray × Bool := if tkIn L ps then (L.take (talkG L ps), true) else ([], false)
theorem talkT_yes {L : List ByteArray} {ps : List Int} (h : tkIn L ps) : talkT L ps = (L.take (talkG L ps), true) := if_pos h
theorem talkT_no {L : List ByteArray} {ps : List Int} (h : ¬ tkIn L ps) : talkT L ps = ([], false) := if_neg h
theorem tk_mod {x : Int} (h : 0 ≤ x) (c0 : ¬ Int.tmod x 4 = 0) (c1 : ¬ Int.tmod x 4 = 1) (c2 : ¬ Int.tmod x 4 = 2) : Int.tmod x 4 = 3 := by
  rw [tmod_nn h] at *
  omega
theorem tk_offer (L : List ByteArray) (hL : L.length ≤ 20) (hs : ∀ s ∈ L, s.size ≤ 60) (i : Nat) (hi : i < L.length) : offerT 0 0 (L.take i) 0 [] L[i] = (0, 0, L.take (i + 1), 0, [], true) := by
  unfold offerT
  have hl : (L.take i).length = i := by rw [List.length_take]; omega
  rw [if_pos ⟨hs _ (List.getElem_mem _), by omega, by omega, ⟨by omega, by omega, by rw [hl]; omega, by omega, rfl, tk_short (fun s h => hs s (List.mem_of_mem_take h)), rfl⟩⟩, List.take_succ_eq_append_getElem hi]

theorem areShort_l0 (l : List ByteArray) (hl : l.length ≤ 35184372088832) (d : Nat) : ∀ i : Nat, l.length - i = d → i ≤ l.length → Gets (fun k => impl_areShort.l0 k l (l.length : Int) (i : Int)) (· = shortL (l.drop i)) := by
  induction d with
  | zero =>
    intro i hd hi
    refine Gets.step (fun k => impl_areShort.l0.eq_2 ..) (Gets.neg (by omega) (Gets.ret ?_))
    rw [List.drop_of_length_le (by omega)]; rfl
  | succ d ih =>
    intro i hd hi
    refine Gets.step (fun k => impl_areShort.l0.eq_2 ..) (Gets.pos (by omega) (Gets.pos (by omega) (Gets.pos (by omega) ?_)))
    have e : rdOf ByteArray.empty l (i : Int) = l[i] := rdS_get (by omega)
    simp only [e]
    rw [wrapId (by omega) (by omega), drop_at l i (by omega), shortL_cons]
    refine Gets.ite (fun h => Gets.ret (by rw [decide_eq_false (by omega)]; rfl)) (fun h => ?_)
    rw [show ((i : Int) + 1) = ((i + 1 : Nat) : Int) by omega]
    refine (ih (i + 1) (by omega) (by omega)).mono (fun r hr => ?_)
    rw [hr, decide_eq_true (by omega)]; rfl
theorem areShort (l : List ByteArray) (hl : l.length ≤ 35184372088832) : Gets (fun k => impl_areShort.f k l) (· = shortL l) := by
  unfold impl_areShort.f
  exact areShort_l0 l hl l.length 0 (by omega) (by omega)

theorem inR (x a b : Int) : impl_inRange.f x a b = some (decide (a ≤ x ∧ x ≤ b)) := by
  unfold impl_inRange.f
  by_cases h : x ≥ a
  · rw [if_pos h]; simp [show a ≤ x from h]
  · rw [if_neg h]; simp [show ¬ a ≤ x from h]

theorem implEndOk (nx ac : Int) (q : List ByteArray) (got : Int) (out : List ByteArray) (hn : -9223372036854775808 ≤ nx ∧ nx ≤ 9223372036854775807) (hq : q.length ≤ 35184372088832) (ho : out.length ≤ 35184372088832) : Gets (fun k => impl_EndOk.f k nx ac q got out) (fun r => r = true ↔ endP nx ac q got out) := by
  have no : ∀ c, c = true → ¬ endP nx ac q got out → Gets (fun k => impl_EndOk.j0 k c nx ac q got out) (fun r => r = true ↔ endP nx ac q got out) := fun c hc h =>
    Gets.step (fun k => impl_EndOk.j0.eq_2 ..) (Gets.pos hc (Gets.ret (by simp [h])))
  have nf : ¬ endP nx ac q got out → Gets (fun _ => some false) (fun r => r = true ↔ endP nx ac q got out) := fun h => Gets.ret (by simp [h])
  unfold impl_EndOk.f
  simp only [inR, Option.bind_some, decide_eq_true_eq]
  refine Gets.ite (fun h1 => ?_) (fun h1 => no _ rfl (fun h => h1 h.1))
  rw [wrapId (x := ac + 4) (by omega) (by omega)]
  refine Gets.ite (fun h2 => ?_) (fun h2 => no _ rfl (fun h => h2 h.2.1))
  rw [wrapId (x := nx - ac) (by omega) (by omega)]
  by_cases h3 : nx - ac ≤ (q.length : Int) ∧ (q.length : Int) ≤ 30
  · refine Gets.step (fun k => impl_EndOk.j0.eq_2 ..) (Gets.neg (by simp only [decide_eq_true h3]; simp) ?_)
    simp only [inR, Option.bind_some, decide_eq_true_eq]
    refine Gets.ite (fun h4 => Gets.ite (fun h5 => ?_) (fun h5 => nf (fun h => h5 h.2.2.2.2.1))) (fun h4 => nf (fun h => h4 h.2.2.2.1))
    refine Gets.bindE (areShort q hq).ev (Gets.ite (fun h6 => ?_) (fun h6 => nf (fun h => h6 h.2.2.2.2.2.1)))
    exact Gets.bindE (areShort out ho).ev (Gets.ret ⟨fun h7 => ⟨h1, h2, h3, h4, h5, h6, h7⟩, fun h => h.2.2.2.2.2.2⟩)
  · exact no _ (by simp only [decide_eq_false h3]; rfl) (fun h => h3 h.2.2.1)

theorem parcelsF (s0 ac : Int) (q : List ByteArray) (got : Int) (o : List ByteArray) (fr up : Int) (h0 : 0 ≤ ac ∧ ac ≤ 1000000000) (h1 : ac + 1 ≤ fr) (h2 : up ≤ ac + q.length) (h3 : q.length ≤ 1000000000) : impl_End_parcels.f s0 ac q got o fr up = some ((List.range (up + 1 - fr).toNat).map (elP ac q got fr)) := by
  unfold impl_End_parcels.f
  rw [if_pos ⟨h0.1, h1, h2, h0.2, h3⟩]
  rfl
theorem implAgain (nx ac : Int) (q : List ByteArray) (got : Int) (out : List ByteArray) (hn : -9223372036854775808 ≤ nx ∧ nx ≤ 9223372036854775807) (hq : q.length ≤ 1048576) (ho : out.length ≤ 1048576) : Gets (fun k => impl_SendAgain.f k nx ac q got out) (· = againT nx ac q got out) := by
  unfold impl_SendAgain.f
  refine Gets.bind (implEndOk nx ac q got out hn (by omega) (by omega)) (fun t ht => Gets.ite (fun h => ?_) (fun h => Gets.ret (againT_no (fun h2 => h (ht.2 h2))).symm))
  have he := ht.1 h
  have h1 := he.1
  have h2 := he.2.1
  have h3 := he.2.2.1
  refine Gets.ite (fun e => Gets.ret (againT_eq he e).symm) (fun e => ?_)
  rw [wrapId (x := ac + 1) (by omega) (by omega), parcelsF nx ac q got out (ac + 1) nx (by omega) (by omega) (by omega) (by omega)]
  refine Gets.ret ?_
  rw [againT_ne he e, show nx + 1 - (ac + 1) = nx - ac by omega]

theorem implCopyEnd (a b : Int) (q : List ByteArray) (c : Int) (o : List ByteArray) (hq : q.length ≤ 1048576) (ho : o.length ≤ 1048576) : impl_copyEnd.f a b q c o = some (a, b, q, c, o) := by
  unfold impl_copyEnd.f slices_Clone_string_string.f
  simp only [Option.bind_some, List.length_nil, List.nil_append]
  rw [if_pos (by omega), if_pos (by omega)]
  rfl
theorem implOffer (nx ac : Int) (q : List ByteArray) (got : Int) (out : List ByteArray) (t : ByteArray) (hn : -9223372036854775808 ≤ nx ∧ nx ≤ 9223372036854775807) (hq : q.length ≤ 1048576) (ho : out.length ≤ 1048576) : Gets (fun k => impl_Offer.f k nx ac q got out t) (· = offerT nx ac q got out t) := by
  unfold impl_Offer.f
  have hno : ¬ (t.size ≤ 60 ∧ q.length < 30 ∧ ac + q.length < 1000 ∧ endP nx ac q got out) → offerT nx ac q got out t = (0, 0, [], 0, [], false) := fun h => by unfold offerT; rw [if_neg h]
  refine Gets.ite (fun h1 => Gets.ret (hno (by omega)).symm) (fun h1 => Gets.ite (fun h2 => Gets.ret (hno (by omega)).symm) (fun h2 => ?_))
  refine Gets.ite (fun h3 => Gets.ret (hno (fun h => ?_)).symm) (fun h3 => ?_)
  · have := h.2.2.2.1
    rw [wrapId (by omega) (by omega)] at h3
    omega
  · refine Gets.bind (implEndOk nx ac q got out hn (by omega) (by omega)) (fun r hr => Gets.ite (fun h4 => ?_) (fun h4 => Gets.ret (hno (fun h => h4 (hr.2 h.2.2.2))).symm))
    have he := hr.1 h4
    have := he.1
    rw [wrapId (by omega) (by omega)] at h3
    rw [implCopyEnd _ _ _ _ _ hq ho]
    simp only [Option.bind_some]
    refine Gets.pos (by omega) (Gets.ret ?_)
    unfold offerT
    rw [if_pos ⟨by omega, by omega, by omega, he⟩]

theorem implNew (nx ac : Int) (q : List ByteArray) (got : Int) (out : List ByteArray) (hn : -9223372036854775808 ≤ nx ∧ nx ≤ 9223372036854775807) (hq : q.length ≤ 1048576) (ho : out.length ≤ 1048576) : Gets (fun k => impl_SendNew.f k nx ac q got out) (· = newT nx ac q got out) := by
  unfold impl_SendNew.f
  rw [implCopyEnd _ _ _ _ _ hq ho]
  simp only [Option.bind_some]
  refine Gets.bind (implEndOk nx ac q got out hn (by omega) (by omega)) (fun t ht => Gets.ite (fun h => ?_) (fun h => Gets.ret (newT_no (fun h2 => h (ht.2 h2))).symm))
  have he := ht.1 h
  have h1 := he.1
  have h2 := he.2.1
  have hb := upNew_bd he
  have e : mn (q.length : Int) 4 = (if (q.length : Int) ≤ 4 then (q.length : Int) else 4) := by unfold mn; split <;> (try split) <;> omega
  have e2 : wrap64 (ac + mn (q.length : Int) 4) = upNew ac q := by rw [e]; exact wrapId (by unfold upNew at hb; omega) (by unfold upNew at hb; omega)
  rw [e2, wrapId (x := nx + 1) (by omega) (by omega), parcelsF nx ac q got out (nx + 1) (upNew ac q) (by omega) (by omega) (by omega) (by omega)]
  refine Gets.ret ?_
  rw [newT_yes he, show upNew ac q + 1 - (nx + 1) = upNew ac q - nx by omega]

theorem implRecv_j1 (nx ac : Int) (q : List ByteArray) (got : Int) (out : List ByteArray) (num ack : Int) (t : ByteArray) (h : endP nx ac q got out) (b : Bool) (hb : b = true ↔ (ack > ac ∧ ack ≤ nx)) :
    Gets (fun k => impl_Receive.j1 k b nx ac q got out num ack t nx ac q got out) (· = if ack > ac ∧ ack ≤ nx then recvI nx ack (q.drop (ack - ac).toNat) got out num t else recvI nx ac q got out num t) := by
  obtain ⟨h1, h2, h3, h4, h5, _⟩ := h
  have fin : ∀ (a' : Int) (q' : List ByteArray), Gets (fun _ => if num = wrap64 (got + 1) then (if got ≥ 1000 then (some (nx, a', q', got, out, false)) else (if out.length < 8796093022208 then (some (nx, a', q', wrap64 (got + 1), (out ++ [t]), true)) else (none))) else (some (nx, a', q', got, out, false))) (· = recvI nx a' q' got out num t) := by
    intro a' q'
    rw [wrapId (x := got + 1) (by omega) (by omega)]
    unfold recvI
    refine Gets.ite (fun hn => Gets.ite (fun hg => Gets.ret ?_) (fun hg => Gets.pos (by omega) (Gets.ret ?_))) (fun hn => Gets.ret ?_)
    · rw [if_neg (by omega)]
    · rw [if_pos ⟨hn, by omega⟩]
    · rw [if_neg (fun e => hn e.1)]
  refine Gets.step (fun k => impl_Receive.j1.eq_2 ..) (Gets.ite (fun h => ?_) (fun h => ?_))
  · have hk := hb.1 h
    rw [if_pos hk, wrapId (x := ack - ac) (by omega) (by omega)]
    refine Gets.pos (by omega) (Gets.pos (by omega) ?_)
    simp only [Option.bind_some]
    exact fin _ _
  · rw [if_neg (fun e => h (hb.2 e))]
    exact fin _ _
theorem implRecv (nx ac : Int) (q : List ByteArray) (got : Int) (out : List ByteArray) (num ack : Int) (t : ByteArray) (hn : -9223372036854775808 ≤ nx ∧ nx ≤ 9223372036854775807) (hq : q.length ≤ 1048576) (ho : out.length ≤ 1048576) :
    Gets (fun k => impl_Receive.f k nx ac q got out num ack t) (· = recvT nx ac q got out num ack t) := by
  unfold impl_Receive.f recvT
  rw [implCopyEnd nx ac q got out hq ho]
  simp only [Option.bind_some]
  have no : ∀ b, b = true → Gets (fun k => impl_Receive.j0 k b nx ac q got out num ack t nx ac q got out) (· = (nx, ac, q, got, out, false)) := fun b hb => Gets.step (fun k => impl_Receive.j0.eq_2 ..) (Gets.pos hb (Gets.ret rfl))
  refine Gets.ite (fun h => ?_) (fun h1 => Gets.ite (fun h => ?_) (fun h2 => ?_))
  · rw [if_pos (.inl h)]; exact no _ rfl
  · rw [if_pos (.inr (.inl (by omega)))]; exact no _ rfl
  · refine Gets.bind (implEndOk nx ac q got out hn (by omega) (by omega)) (fun r hr => ?_)
    by_cases hE : endP nx ac q got out
    · rw [if_neg (by rintro (h | h | h); exact h1 h; omega; exact h hE), hr.2 hE]
      refine Gets.step (fun k => impl_Receive.j0.eq_2 ..) (Gets.neg (by simp) (Gets.ite (fun h => ?_) (fun h => ?_)))
      · exact implRecv_j1 nx ac q got out num ack t hE _ ⟨fun h3 => ⟨h, of_decide_eq_true h3⟩, fun h3 => decide_eq_true h3.2⟩
      · exact implRecv_j1 nx ac q got out num ack t hE _ ⟨fun h3 => by simp at h3, fun h3 => absurd h3.1 h⟩
    · rw [if_pos (.inr (.inr hE))]
      have hr0 : r = false := by
        cases r with
        | false => rfl
        | true => exact absurd (hr.1 rfl) hE
      exact no _ (by rw [hr0]; rfl)

theorem equalS_l0 (a : List ByteArray) (ha : a.length ≤ 35184372088832) (d : Nat) : ∀ i : Nat, a.length - i = d → i ≤ a.length → Gets (fun k => slices_Equal_string_string.l0 k a a (a.length : Int) (i : Int)) (· = true) := by
  induction d with
  | zero =>
    intro i hd hi
    exact Gets.step (fun k => slices_Equal_string_string.l0.eq_2 ..) (Gets.neg (by omega) (Gets.ret rfl))
  | succ d ih =>
    intro i hd hi
    refine Gets.step (fun k => slices_Equal_string_string.l0.eq_2 ..) (Gets.pos (by omega) (Gets.pos (by omega) (Gets.pos (by omega) (Gets.pos (by omega) (Gets.pos rfl ?_)))))
    rw [wrapId (x := (i : Int) + 1) (by omega) (by omega), show (i : Int) + 1 = ((i + 1 : Nat) : Int) by omega]
    exact ih (i + 1) (by omega) (by omega)
theorem equalS_true (a : List ByteArray) (ha : a.length ≤ 35184372088832) : Gets (fun k => slices_Equal_string_string.f k a a) (· = true) := by
  unfold slices_Equal_string_string.f
  exact Gets.pos rfl (equalS_l0 a ha a.length 0 (by omega) (by omega))

theorem implPick (L : List ByteArray) (hL : L.length ≤ 20) (hs : ∀ s ∈ L, s.size ≤ 60) (c : Nat) (hc : c ≤ 200) (x : Int) (hx : 0 ≤ x) (n m g : Nat) (th bk : List S36) (h : okS L c (n, m, g, th, bk)) :
    Gets (fun k => impl_talk_pick.f k x n m (L.drop m) 0 [] 0 0 [] g (L.take g) th bk) (· = (((pickS L x (n, m, g, th, bk)).1 : Int), ((pickS L x (n, m, g, th, bk)).2.1 : Int), L.drop (pickS L x (n, m, g, th, bk)).2.1, 0, [], 0, 0, [], ((pickS L x (n, m, g, th, bk)).2.2.1 : Int), L.take (pickS L x (n, m, g, th, bk)).2.2.1, (pickS L x (n, m, g, th, bk)).2.2.2.1, (pickS L x (n, m, g, th, bk)).2.2.2.2)) := by
  obtain ⟨h1, h2, h3, h4, h5, h6, h7, h8⟩ := h
  simp only at h1 h2 h3 h4 h5 h6 h7 h8
  have hd : (L.drop m).length ≤ 1048576 := by rw [List.length_drop]; omega
  have ht : (L.take g).length ≤ 1048576 := by rw [List.length_take]; omega
  unfold impl_talk_pick.f pickS
  simp only
  by_cases c0 : Int.tmod x 4 = 0
  · refine Gets.pos c0 ?_
    rw [if_pos c0]
    obtain ⟨k1, k2, _⟩ := tkNew L n m hL hs h1 h2 h3
    refine Gets.bindE (implNew n m (L.drop m) 0 [] (by omega) hd (by simp)).ev ?_
    rw [k1]
    exact Gets.pos (by simp only; omega) (Gets.ret rfl)
  · refine Gets.neg c0 ?_
    rw [if_neg c0]
    by_cases c1 : Int.tmod x 4 = 1
    · refine Gets.pos c1 ?_
      rw [if_pos c1]
      have hl := againT_len n m (L.drop m) 0 []
      refine Gets.bindE (implAgain n m (L.drop m) 0 [] (by omega) hd (by simp)).ev ?_
      exact Gets.pos (by omega) (Gets.ret rfl)
    · refine Gets.neg c1 ?_
      rw [if_neg c1]
      by_cases c2 : Int.tmod x 4 = 2
      · refine Gets.pos c2 ?_
        rw [if_pos c2]
        rcases th with _ | ⟨p, r⟩
        · exact Gets.pos rfl (Gets.ret rfl)
        · refine Gets.neg (by rw [List.length_cons]; omega) (Gets.pos (by rw [List.length_cons]; omega) (Gets.pos (by rw [List.length_cons]; omega) ?_))
          simp only [Option.bind_some, tkRd]
          rw [show (p :: r).drop (1 : Int).toNat = r from rfl]
          by_cases cl : tkLost x
          · rw [if_pos cl]
            exact Gets.pos cl (Gets.ret rfl)
          · rw [if_neg cl]
            refine Gets.neg cl ?_
            obtain ⟨⟨k1, k2⟩, b, k3⟩ := tkRecvB L hL hs g h4 p (h7 p (List.mem_cons_self ..))
            refine Gets.bindE (implRecv 0 0 [] g (L.take g) _ _ _ (by omega) (by simp) ht).ev ?_
            rw [k3]
            refine Gets.bindE (implAgain 0 0 [] _ _ (by omega) (by simp) (by rw [List.length_take]; omega)).ev ?_
            rw [tkAgainB L _ hL hs k2]
            exact Gets.pos (by simp only [List.length_cons, List.length_nil]; omega) (Gets.ret rfl)
      · refine Gets.neg c2 (Gets.pos (tk_mod hx c0 c1 c2) ?_)
        rw [if_neg c2]
        rcases bk with _ | ⟨p, r⟩
        · exact Gets.pos rfl (Gets.ret rfl)
        · refine Gets.neg (by rw [List.length_cons]; omega) (Gets.pos (by rw [List.length_cons]; omega) (Gets.pos (by rw [List.length_cons]; omega) ?_))
          simp only [Option.bind_some, tkRd]
          rw [show (p :: r).drop (1 : Int).toNat = r from rfl]
          by_cases cl : tkLost x
          · rw [if_pos cl]
            exact Gets.pos cl (Gets.ret rfl)
          · rw [if_neg cl]
            refine Gets.neg cl ?_
            obtain ⟨a, rfl⟩ := h8 p (List.mem_cons_self ..)
            obtain ⟨⟨k1, k2⟩, k3⟩ := tkRecvA L hL hs n m a h1 h2 h3
            refine Gets.bindE (implRecv n m (L.drop m) 0 [] 0 a (⟨#[]⟩ : ByteArray) (by omega) hd (by simp)).ev ?_
            rw [k3]
            exact Gets.ret rfl
theorem implTalk_l2 (L : List ByteArray) (ps : List Int) (hI : tkIn L ps) (d : Nat) : ∀ (i : Nat) (s : Nat × Nat × Nat × List S36 × List S36), ps.length - i = d → i ≤ ps.length → okS L i s →
    Gets (fun k => impl_Talk.l2 k L ps (ps.length : Int) (i : Int) s.1 s.2.1 (L.drop s.2.1) 0 [] 0 0 [] s.2.2.1 (L.take s.2.2.1) s.2.2.2.1 s.2.2.2.2) (· = (L.take (tkFin L (ps.drop i) s), true)) := by
  obtain ⟨hL, hp, hs, hn⟩ := hI
  induction d with
  | zero =>
    intro i s hd hi h
    have h4 := h.2.2.2.1
    refine Gets.step (fun k => impl_Talk.l2.eq_2 ..) (Gets.neg (by omega) ?_)
    rw [List.drop_of_length_le (by omega)]
    have hl : (L.take s.2.2.1).length = s.2.2.1 := by rw [List.length_take]; omega
    unfold slices_Clone_string_string.f
    simp only [Option.bind_some, List.nil_append]
    refine Gets.bind (P := fun t => t = L.take s.2.2.1) (Gets.pos (by simp only [List.length_nil]; omega) (Gets.ret rfl)) (fun t ht => ?_)
    subst ht
    rw [hl]
    refine Gets.pos (by omega) (Gets.pos (by omega) ?_)
    rw [Int.toNat_natCast]
    exact Gets.bind (equalS_true _ (by omega)) (fun t ht => Gets.ret (by rw [ht]; rfl))
  | succ d ih =>
    intro i s hd hi h
    obtain ⟨n, m, g, th, bk⟩ := s
    refine Gets.step (fun k => impl_Talk.l2.eq_2 ..) (Gets.pos (by omega) (Gets.pos (by omega) (Gets.pos (by omega) ?_)))
    have e1 : rd ps (i : Int) = ps[i] := rd_get (by omega)
    rw [e1, wrapId (x := (i : Int) + 1) (by omega) (by omega), show (i : Int) + 1 = ((i + 1 : Nat) : Int) by omega]
    have hx : 0 ≤ ps[i] := hn _ (List.getElem_mem _)
    refine Gets.bindE (implPick L hL hs i (by omega) ps[i] hx n m g th bk h).ev ?_
    rw [drop_at ps i (by omega), tkFin_cons]
    exact ih (i + 1) (pickS L ps[i] (n, m, g, th, bk)) (by omega) (by omega) (pick_ok L hL hs i _ _ h).1
theorem implTalk_l1 (L : List ByteArray) (ps : List Int) (hI : tkIn L ps) (d : Nat) : ∀ (i : Nat), L.length - i = d → i ≤ L.length → Gets (fun k => impl_Talk.l1 k L ps L (L.length : Int) (i : Int) 0 0 (L.take i) 0 [] 0 0 0) (· = talkT L ps) := by
  have hI' := hI
  obtain ⟨hL, hp, hs, hn⟩ := hI
  induction d with
  | zero =>
    intro i hd hi
    refine Gets.step (fun k => impl_Talk.l1.eq_2 ..) (Gets.neg (by omega) ?_)
    rw [List.take_of_length_le (by omega), talkT_yes hI']
    exact implTalk_l2 L ps hI' ps.length 0 (0, 0, 0, [], []) rfl (by omega) (ok0 L)
  | succ d ih =>
    intro i hd hi
    refine Gets.step (fun k => impl_Talk.l1.eq_2 ..) (Gets.pos (by omega) (Gets.pos (by omega) (Gets.pos (by omega) ?_)))
    have e1 : rdOf ByteArray.empty L (i : Int) = L[i] := rdS_get (by omega)
    rw [e1, wrapId (x := (i : Int) + 1) (by omega) (by omega), show (i : Int) + 1 = ((i + 1 : Nat) : Int) by omega]
    refine Gets.bindE (implOffer 0 0 (L.take i) 0 [] L[i] (by omega) (by rw [List.length_take]; omega) (by simp)).ev ?_
    rw [tk_offer L hL hs i (by omega)]
    exact ih (i + 1) (by omega) (by omega)
theorem implTalk_l0 (L : List ByteArray) (ps : List Int) (h0 : L.length ≤ 20 ∧ ps.length ≤ 200 ∧ ∀ s ∈ L, s.size ≤ 60) (d : Nat) : ∀ (i : Nat), ps.length - i = d → i ≤ ps.length → (∀ x ∈ ps.take i, 0 ≤ x) → Gets (fun k => impl_Talk.l0 k L ps ps (ps.length : Int) (i : Int)) (· = talkT L ps) := by
  obtain ⟨hL, hp, hs⟩ := h0
  induction d with
  | zero =>
    intro i hd hi hn
    rw [List.take_of_length_le (by omega)] at hn
    refine Gets.step (fun k => impl_Talk.l0.eq_2 ..) (Gets.neg (by omega) ?_)
    exact implTalk_l1 L ps ⟨hL, hp, hs, hn⟩ L.length 0 (by omega) (by omega)
  | succ d ih =>
    intro i hd hi hn
    refine Gets.step (fun k => impl_Talk.l0.eq_2 ..) (Gets.pos (by omega) (Gets.pos (by omega) (Gets.pos (by omega) ?_)))
    have e1 : rd ps (i : Int) = ps[i] := rd_get (by omega)
    rw [e1, wrapId (x := (i : Int) + 1) (by omega) (by omega), show (i : Int) + 1 = ((i + 1 : Nat) : Int) by omega]
    refine Gets.ite (fun h => Gets.ret ?_) (fun h => ih (i + 1) (by omega) (by omega) ?_)
    · rw [talkT_no (fun e => by have := e.2.2.2 _ (List.getElem_mem (h := (by omega : i < ps.length))); omega)]
    · intro x hx
      rw [List.take_succ_eq_append_getElem (by omega)] at hx
      rcases List.mem_append.1 hx with hx | hx
      · exact hn x hx
      · rw [List.mem_singleton.1 hx]; omega
theorem implTalk (L : List ByteArray) (ps : List Int) (hL : L.length ≤ 35184372088832) (hp : ps.length ≤ 35184372088832) : Gets (fun k => impl_Talk.f k L ps) (· = talkT L ps) := by
  unfold impl_Talk.f
  refine Gets.ite (fun h => Gets.step (fun k => impl_Talk.j0.eq_2 ..) (Gets.pos rfl (Gets.ret (talkT_no (fun e => by have := e.1; omega)).symm))) (fun h => ?_)
  refine Gets.ite (fun h => Gets.step (fun k => impl_Talk.j0.eq_2 ..) (Gets.pos rfl (Gets.ret (talkT_no (fun e => by have := e.2.1; omega)).symm))) (fun h2 => ?_)
  refine Gets.bind (areShort L hL) (fun t ht => Gets.step (fun k => impl_Talk.j0.eq_2 ..) ?_)
  refine Gets.ite (fun c => Gets.ret (talkT_no (fun e => ?_)).symm) (fun c => ?_)
  · rw [(shortL_iff L).2 e.2.2.1] at ht
    rw [ht] at c; cases c
  · have hs : shortL L = true := by
      rw [← ht]
      cases t
      · exact absurd rfl c
      · rfl
    exact implTalk_l0 L ps ⟨by omega, by omega, (shortL_iff L).1 hs⟩ ps.length 0 (by omega) (by omega) (by simp)

theorem inS (x a b : Int) : spec_l01In.f x a b = some (decide (a ≤ x ∧ x ≤ b)) := by
  unfold spec_l01In.f
  by_cases h : x ≥ a
  · rw [if_pos h]; simp [show a ≤ x from h]
  · rw [if_neg h]; simp [show ¬ a ≤ x from h]

theorem specEnd_l1 (a b : Int) (q : List ByteArray) (c : Int) (l : List ByteArray) (hl : l.length ≤ 35184372088832) (d : Nat) : ∀ i : Nat, l.length - i = d → i ≤ l.length → Gets (fun k => spec_EndOk.l1 k (i : Int) a b q c l) (· = shortL (l.drop i)) := by
  induction d with
  | zero =>
    intro i hd hi
    refine Gets.step (fun k => spec_EndOk.l1.eq_2 ..) (Gets.neg (by omega) (Gets.ret ?_))
    rw [List.drop_of_length_le (by omega)]; rfl
  | succ d ih =>
    intro i hd hi
    refine Gets.step (fun k => spec_EndOk.l1.eq_2 ..) (Gets.pos (by omega) (Gets.pos (by omega) ?_))
    have e : rdOf ByteArray.empty l (i : Int) = l[i] := rdS_get (by omega)
    simp only [e]
    rw [wrapId (by omega) (by omega), drop_at l i (by omega), shortL_cons]
    refine Gets.ite (fun h => Gets.ret (by rw [decide_eq_false (by omega)]; rfl)) (fun h => ?_)
    rw [show ((i : Int) + 1) = ((i + 1 : Nat) : Int) by omega]
    refine (ih (i + 1) (by omega) (by omega)).mono (fun r hr => ?_)
    rw [hr, decide_eq_true (by omega)]; rfl
theorem specEnd_l0 (a b : Int) (l : List ByteArray) (c : Int) (o : List ByteArray) (hl : l.length ≤ 35184372088832) (ho : o.length ≤ 35184372088832) (d : Nat) : ∀ i : Nat, l.length - i = d → i ≤ l.length → Gets (fun k => spec_EndOk.l0 k (i : Int) a b l c o) (· = (shortL (l.drop i) && shortL o)) := by
  induction d with
  | zero =>
    intro i hd hi
    refine Gets.step (fun k => spec_EndOk.l0.eq_2 ..) (Gets.neg (by omega) ?_)
    rw [List.drop_of_length_le (by omega)]
    exact (specEnd_l1 a b l c o ho o.length 0 (by omega) (by omega)).mono (fun r hr => by rw [hr]; rfl)
  | succ d ih =>
    intro i hd hi
    refine Gets.step (fun k => spec_EndOk.l0.eq_2 ..) (Gets.pos (by omega) (Gets.pos (by omega) ?_))
    have e : rdOf ByteArray.empty l (i : Int) = l[i] := rdS_get (by omega)
    simp only [e]
    rw [wrapId (by omega) (by omega), drop_at l i (by omega), shortL_cons]
    refine Gets.ite (fun h => Gets.ret (by rw [decide_eq_false (by omega)]; rfl)) (fun h => ?_)
    rw [show ((i : Int) + 1) = ((i + 1 : Nat) : Int) by omega]
    refine (ih (i + 1) (by omega) (by omega)).mono (fun r hr => ?_)
    rw [hr, decide_eq_true (show (l[i].size : Int) ≤ 60 by omega)]; rfl
theorem specEndOk (nx ac : Int) (q : List ByteArray) (got : Int) (out : List ByteArray) (hn : -9223372036854775808 ≤ nx ∧ nx ≤ 9223372036854775807) (hq : q.length ≤ 35184372088832) (ho : out.length ≤ 35184372088832) : Gets (fun k => spec_EndOk.f k nx ac q got out) (fun r => r = true ↔ endP nx ac q got out) := by
  have no : ∀ c, c = true → ¬ endP nx ac q got out → Gets (fun k => spec_EndOk.j0 k c nx ac q got out) (fun r => r = true ↔ endP nx ac q got out) := fun c hc h =>
    Gets.step (fun k => spec_EndOk.j0.eq_2 ..) (Gets.pos hc (Gets.ret (by simp [h])))
  unfold spec_EndOk.f
  simp only [inS, Option.bind_some, decide_eq_true_eq]
  refine Gets.ite (fun h1 => ?_) (fun h1 => no _ rfl (fun h => h1 h.1))
  rw [wrapId (x := ac + 4) (by omega) (by omega)]
  refine Gets.ite (fun h2 => ?_) (fun h2 => no _ rfl (fun h => h2 h.2.1))
  rw [wrapId (x := nx - ac) (by omega) (by omega)]
  refine Gets.ite (fun h3 => no _ rfl (fun h => by have := h.2.2.1; omega)) (fun h3 => Gets.ite (fun h4 => no _ rfl (fun h => by have := h.2.2.1; omega)) (fun h4 => Gets.ite (fun h5 => ?_) (fun h5 => no _ rfl (fun h => h5 h.2.2.2.1))))
  by_cases h6 : (out.length : Int) = got
  · refine Gets.step (fun k => spec_EndOk.j0.eq_2 ..) (Gets.neg (by simp [h6]) ?_)
    refine (specEnd_l0 nx ac q got out hq ho q.length 0 (by omega) (by omega)).mono (fun r hr => ?_)
    rw [hr]
    simp only [List.drop_zero, Bool.and_eq_true]
    exact ⟨fun h7 => ⟨h1, h2, ⟨by omega, by omega⟩, h5, h6, h7.1, h7.2⟩, fun h => h.2.2.2.2.2⟩
  · exact no _ (by simp [h6]) (fun h => h6 h.2.2.2.2.1)

theorem specNew_l0 (nx ac : Int) (q : List ByteArray) (got : Int) (out : List ByteArray) (hn : -9223372036854775808 ≤ nx ∧ nx ≤ 9223372036854775807) (hq : q.length ≤ 1048576) (ho : out.length ≤ 1048576) (he : endP nx ac q got out) (d : Nat) : ∀ i : Nat, (upNew ac q - nx).toNat - i = d → i ≤ (upNew ac q - nx).toNat → Gets (fun k => spec_SendNew.l0 k ((List.range i).map (elP ac q got (nx + 1))) nx ac q got out (nx + i) ac q got out) (· = newT nx ac q got out) := by
  have h1 := he.1
  have h2 := he.2.1
  have h3 := he.2.2.1
  have hb := upNew_bd he
  have hu : upNew ac q = ac + (q.length : Int) ∨ upNew ac q = ac + 4 := by unfold upNew; split <;> simp
  induction d with
  | zero =>
    intro i hd hi
    refine Gets.step (fun k => spec_SendNew.l0.eq_2 ..) (Gets.bind (specEndOk nx ac q got out hn (by omega) (by omega)) (fun t ht => Gets.pos (ht.2 he) ?_))
    rw [wrapId (x := ac + 4) (by omega) (by omega), wrapId (x := nx + (i : Int) - ac) (by omega) (by omega)]
    have e : (upNew ac q - nx).toNat = i := by omega
    have fin : (nx + (i : Int), ac, q, got, out, (List.range i).map (elP ac q got (nx + 1))) = newT nx ac q got out := by rw [newT_yes he, e, show nx + (i : Int) = upNew ac q by omega]
    refine Gets.ite (fun h => Gets.neg (by omega) (Gets.ret fin)) (fun h => Gets.ret fin)
  | succ d ih =>
    intro i hd hi
    refine Gets.step (fun k => spec_SendNew.l0.eq_2 ..) (Gets.bind (specEndOk nx ac q got out hn (by omega) (by omega)) (fun t ht => Gets.pos (ht.2 he) ?_))
    rw [wrapId (x := ac + 4) (by omega) (by omega), wrapId (x := nx + (i : Int) - ac) (by omega) (by omega), wrapId (x := nx + (i : Int) + 1) (by omega) (by omega)]
    refine Gets.pos (by omega) (Gets.pos (by omega) (Gets.pos (by omega) (Gets.pos (by simp; omega) ?_)))
    have e : ((⟨nx + (i : Int) + 1, got, rdOf ByteArray.empty q (nx + (i : Int) - ac)⟩ : S36)) = elP ac q got (nx + 1) i := by
      unfold elP
      rw [show nx + 1 + (i : Int) - ac - 1 = nx + (i : Int) - ac by omega, show nx + 1 + (i : Int) = nx + (i : Int) + 1 by omega]
    rw [e, show nx + (i : Int) + 1 = nx + ((i + 1 : Nat) : Int) by omega]
    have h := ih (i + 1) (by omega) (by omega)
    rw [List.range_succ, List.map_append] at h
    exact h
theorem specNew (nx ac : Int) (q : List ByteArray) (got : Int) (out : List ByteArray) (hn : -9223372036854775808 ≤ nx ∧ nx ≤ 9223372036854775807) (hq : q.length ≤ 1048576) (ho : out.length ≤ 1048576) : Gets (fun k => spec_SendNew.f k nx ac q got out) (· = newT nx ac q got out) := by
  unfold spec_SendNew.f spec_l06Copy.f
  simp only [Option.bind_some, List.length_nil, List.nil_append]
  rw [if_pos (by omega), if_pos (by omega)]
  simp only [Option.bind_some]
  by_cases he : endP nx ac q got out
  · have := specNew_l0 nx ac q got out hn hq ho he _ 0 rfl (by omega)
    simpa using this
  · rw [newT_no he]
    exact Gets.step (fun k => spec_SendNew.l0.eq_2 ..) (Gets.bind (specEndOk nx ac q got out hn (by omega) (by omega)) (fun t ht => Gets.neg (fun h => he (ht.1 h)) (Gets.ret rfl)))

theorem specAgain_l0 (nx ac : Int) (q : List ByteArray) (got : Int) (out : List ByteArray) (he : endP nx ac q got out) (d : Nat) : ∀ i : Nat, (nx - ac).toNat - i = d → i ≤ (nx - ac).toNat → Gets (fun k => spec_SendAgain.l0 k ((List.range i).map (elP ac q got (ac + 1))) (i : Int) nx ac q got out) (· = againT nx ac q got out) := by
  have h1 := he.1
  have h2 := he.2.1
  have h3 := he.2.2.1
  induction d with
  | zero =>
    intro i hd hi
    refine Gets.step (fun k => spec_SendAgain.l0.eq_2 ..) ?_
    rw [wrapId (x := nx - ac) (by omega) (by omega)]
    refine Gets.neg (by omega) (Gets.ite (fun h => Gets.pos (by simp; omega) (Gets.ret ?_)) (fun h => Gets.ret ?_))
    · have hi0 : i = 0 := by simpa using h
      subst hi0
      rw [againT_eq he (by omega)]; rfl
    · have hi0 : i ≠ 0 := by simpa using h
      rw [againT_ne he (by omega), show (nx - ac).toNat = i by omega]
  | succ d ih =>
    intro i hd hi
    refine Gets.step (fun k => spec_SendAgain.l0.eq_2 ..) ?_
    rw [wrapId (x := nx - ac) (by omega) (by omega), wrapId (x := ac + (i : Int)) (by omega) (by omega), wrapId (x := ac + (i : Int) + 1) (by omega) (by omega), wrapId (x := (i : Int) + 1) (by omega) (by omega)]
    refine Gets.pos (by omega) (Gets.pos (by omega) (Gets.pos (by omega) (Gets.pos (by simp; omega) ?_)))
    have e : ((⟨ac + (i : Int) + 1, got, rdOf ByteArray.empty q (i : Int)⟩ : S36)) = elP ac q got (ac + 1) i := by
      unfold elP
      rw [show ac + 1 + (i : Int) - ac - 1 = (i : Int) by omega, show ac + 1 + (i : Int) = ac + (i : Int) + 1 by omega]
    rw [e, show ((i : Int) + 1) = ((i + 1 : Nat) : Int) by omega]
    have h := ih (i + 1) (by omega) (by omega)
    rw [List.range_succ, List.map_append] at h
    exact h
theorem specAgain (nx ac : Int) (q : List ByteArray) (got : Int) (out : List ByteArray) (hn : -9223372036854775808 ≤ nx ∧ nx ≤ 9223372036854775807) (hq : q.length ≤ 1048576) (ho : out.length ≤ 1048576) : Gets (fun k => spec_SendAgain.f k nx ac q got out) (· = againT nx ac q got out) := by
  unfold spec_SendAgain.f
  simp only [Option.bind_some]
  refine Gets.bind (specEndOk nx ac q got out hn (by omega) (by omega)) (fun t ht => Gets.ite (fun h => ?_) (fun h => Gets.ret (againT_no (fun h2 => h (ht.2 h2))).symm))
  exact specAgain_l0 nx ac q got out (ht.1 h) _ 0 rfl (by omega)

theorem specCopyEnd (a b : Int) (q : List ByteArray) (c : Int) (o : List ByteArray) (hq : q.length ≤ 1048576) (ho : o.length ≤ 1048576) : spec_l06Copy.f a b q c o = some (a, b, q, c, o) := by
  unfold spec_l06Copy.f
  simp only [Option.bind_some, List.length_nil, List.nil_append]
  rw [if_pos (by omega), if_pos (by omega)]
theorem specOffer (nx ac : Int) (q : List ByteArray) (got : Int) (out : List ByteArray) (t : ByteArray) (hn : -9223372036854775808 ≤ nx ∧ nx ≤ 9223372036854775807) (hq : q.length ≤ 1048576) (ho : out.length ≤ 1048576) : Gets (fun k => spec_Offer.f k nx ac q got out t) (· = offerT nx ac q got out t) := by
  unfold spec_Offer.f
  have hno : ¬ (t.size ≤ 60 ∧ q.length < 30 ∧ ac + q.length < 1000 ∧ endP nx ac q got out) → offerT nx ac q got out t = (0, 0, [], 0, [], false) := fun h => by unfold offerT; rw [if_neg h]
  refine Gets.bind (specEndOk nx ac q got out hn (by omega) (by omega)) (fun r hr => Gets.ite (fun h4 => ?_) (fun h4 => Gets.ret (hno (fun h => h4 (hr.2 h.2.2.2))).symm))
  have he := hr.1 h4
  have := he.1
  rw [wrapId (by omega) (by omega)]
  refine Gets.ite (fun h1 => Gets.ret (hno (by omega)).symm) (fun h1 => Gets.ite (fun h2 => Gets.ret (hno (by omega)).symm) (fun h2 => Gets.ite (fun h3 => Gets.ret (hno (by omega)).symm) (fun h3 => ?_)))
  rw [specCopyEnd _ _ _ _ _ hq ho]
  simp only [Option.bind_some]
  refine Gets.pos (by omega) (Gets.ret ?_)
  unfold offerT
  rw [if_pos ⟨by omega, by omega, by omega, he⟩]

theorem specRecv_j1 (nx ac : Int) (q : List ByteArray) (got : Int) (out : List ByteArray) (num ack : Int) (t : ByteArray) (h : endP nx ac q got out) (b : Bool) (hb : b = true ↔ (ack > ac ∧ ack ≤ nx)) :
    Gets (fun k => spec_Receive.j1 k b num ack t nx ac q got out) (· = if ack > ac ∧ ack ≤ nx then recvI nx ack (q.drop (ack - ac).toNat) got out num t else recvI nx ac q got out num t) := by
  obtain ⟨h1, h2, h3, h4, h5, _⟩ := h
  have fin : ∀ (a' : Int) (q' : List ByteArray), Gets (fun _ => if num = wrap64 (got + 1) then (if got ≥ 1000 then (some (nx, a', q', got, out, false)) else (if out.length < 8796093022208 then (some (nx, a', q', wrap64 (got + 1), (out ++ [t]), true)) else (none))) else (some (nx, a', q', got, out, false))) (· = recvI nx a' q' got out num t) := by
    intro a' q'
    rw [wrapId (x := got + 1) (by omega) (by omega)]
    unfold recvI
    refine Gets.ite (fun hn => Gets.ite (fun hg => Gets.ret ?_) (fun hg => Gets.pos (by omega) (Gets.ret ?_))) (fun hn => Gets.ret ?_)
    · rw [if_neg (by omega)]
    · rw [if_pos ⟨hn, by omega⟩]
    · rw [if_neg (fun e => hn e.1)]
  refine Gets.step (fun k => spec_Receive.j1.eq_2 ..) (Gets.ite (fun h => ?_) (fun h => ?_))
  · have hk := hb.1 h
    rw [if_pos hk, wrapId (x := ack - ac) (by omega) (by omega)]
    simp only [Option.bind_some, List.length_nil, List.nil_append]
    refine Gets.pos (by omega) (Gets.pos (by omega) (Gets.pos (by rw [List.length_drop]; omega) ?_))
    exact fin _ _
  · rw [if_neg (fun e => h (hb.2 e))]
    exact fin _ _
theorem specRecv (nx ac : Int) (q : List ByteArray) (got : Int) (out : List ByteArray) (num ack : Int) (t : ByteArray) (hn : -9223372036854775808 ≤ nx ∧ nx ≤ 9223372036854775807) (hq : q.length ≤ 1048576) (ho : out.length ≤ 1048576) :
    Gets (fun k => spec_Receive.f k nx ac q got out num ack t) (· = recvT nx ac q got out num ack t) := by
  unfold spec_Receive.f recvT
  rw [specCopyEnd nx ac q got out hq ho]
  simp only [Option.bind_some]
  have no : ∀ b, b = true → Gets (fun k => spec_Receive.j0 k b num ack t nx ac q got out) (· = (nx, ac, q, got, out, false)) := fun b hb => Gets.step (fun k => spec_Receive.j0.eq_2 ..) (Gets.pos hb (Gets.ret rfl))
  refine Gets.bind (specEndOk nx ac q got out hn (by omega) (by omega)) (fun r hr => Gets.ite (fun hE => ?_) (fun hE => ?_))
  · have hE := hr.1 hE
    refine Gets.ite (fun h => ?_) (fun h1 => ?_)
    · rw [if_pos (.inl h)]; exact no _ rfl
    · by_cases h2 : (t.size : Int) > 60
      · rw [if_pos (.inr (.inl (by omega)))]; exact no _ (decide_eq_true h2)
      · rw [if_neg (by rintro (h | h | h); exact h1 h; omega; exact h hE)]
        refine Gets.step (fun k => spec_Receive.j0.eq_2 ..) (Gets.neg (by simpa using h2) (Gets.ite (fun h => ?_) (fun h => ?_)))
        · exact specRecv_j1 nx ac q got out num ack t hE _ ⟨fun h3 => ⟨h, of_decide_eq_true h3⟩, fun h3 => decide_eq_true h3.2⟩
        · exact specRecv_j1 nx ac q got out num ack t hE _ ⟨fun h3 => by simp at h3, fun h3 => absurd h3.1 h⟩
  · rw [if_pos (.inr (.inr (fun h => hE (hr.2 h))))]
    exact no _ rfl

theorem specTalk_l2 (L : List ByteArray) (hL : L.length ≤ 20) (g : Nat) (hg : g ≤ L.length) (d : Nat) : ∀ i : Nat, g - i = d → i ≤ g → Gets (fun k => spec_Talk.l2 k L true (i : Int) 0 0 [] g (L.take g)) (· = (L.take g, true)) := by
  have hl : (L.take g).length = g := by rw [List.length_take]; omega
  induction d with
  | zero =>
    intro i hd hi
    refine Gets.step (fun k => spec_Talk.l2.eq_2 ..) (Gets.neg (by omega) ?_)
    simp only [Option.bind_some, List.nil_append]
    exact Gets.pos (by simp only [List.length_nil]; omega) (Gets.ret rfl)
  | succ d ih =>
    intro i hd hi
    refine Gets.step (fun k => spec_Talk.l2.eq_2 ..) (Gets.pos (by omega) (Gets.pos rfl (Gets.pos (by omega) (Gets.pos (by omega) ?_))))
    have e1 : rdOf ByteArray.empty L (i : Int) = L[i] := rdS_get (by omega)
    have e2 : rdOf ByteArray.empty (L.take g) (i : Int) = L[i] := by rw [rdS_get (by omega)]; simp
    rw [e1, e2, beq_self_eq_true, wrapId (x := (i : Int) + 1) (by omega) (by omega), show (i : Int) + 1 = ((i + 1 : Nat) : Int) by omega]
    exact ih (i + 1) (by omega) (by omega)
theorem specTalk_l1 (L : List ByteArray) (ps : List Int) (hI : tkIn L ps) (d : Nat) : ∀ (i : Nat) (s : Nat × Nat × Nat × List S36 × List S36), ps.length - i = d → i ≤ ps.length → okS L i s →
    Gets (fun k => spec_Talk.l1 k L ps s.2.2.2.1 s.2.2.2.2 (i : Int) s.1 s.2.1 (L.drop s.2.1) 0 [] 0 0 [] s.2.2.1 (L.take s.2.2.1)) (· = (L.take (tkFin L (ps.drop i) s), true)) := by
  obtain ⟨hL, hp, hs, hn⟩ := hI
  induction d with
  | zero =>
    intro i s hd hi h
    have h4 := h.2.2.2.1
    refine Gets.step (fun k => spec_Talk.l1.eq_2 ..) (Gets.neg (by omega) ?_)
    rw [List.drop_of_length_le (by omega), decide_eq_true (by rw [List.length_take]; omega)]
    exact specTalk_l2 L hL s.2.2.1 h4 s.2.2.1 0 (by omega) (by omega)
  | succ d ih =>
    intro i s hd hi h
    obtain ⟨n, m, g, th, bk⟩ := s
    have ok := pick_ok L hL hs i ps[i] (n, m, g, th, bk) h
    have next := ih (i + 1) (pickS L ps[i] (n, m, g, th, bk)) (by omega) (by omega) ok.1
    obtain ⟨h1, h2, h3, h4, h5, h6, h7, h8⟩ := h
    simp only at h1 h2 h3 h4 h5 h6 h7 h8
    have hd' : (L.drop m).length ≤ 1048576 := by rw [List.length_drop]; omega
    have ht : (L.take g).length ≤ 1048576 := by rw [List.length_take]; omega
    have hx : 0 ≤ ps[i] := hn _ (List.getElem_mem _)
    refine Gets.step (fun k => spec_Talk.l1.eq_2 ..) (Gets.pos (by omega) (Gets.pos (by omega) ?_))
    have e1 : rd ps (i : Int) = ps[i] := rd_get (by omega)
    rw [e1, wrapId (x := (i : Int) + 1) (by omega) (by omega), show (i : Int) + 1 = ((i + 1 : Nat) : Int) by omega, drop_at ps i (by omega), tkFin_cons]
    revert next
    generalize ps[i] = x at hx ok ⊢
    unfold pickS
    simp only
    by_cases c0 : Int.tmod x 4 = 0
    · rw [if_pos c0]
      intro next
      refine Gets.pos c0 ?_
      obtain ⟨k1, k2, _⟩ := tkNew L n m hL hs h1 h2 h3
      refine Gets.bindE (specNew n m (L.drop m) 0 [] (by omega) hd' (by simp)).ev ?_
      rw [k1]
      exact Gets.pos (by simp only; omega) next
    · rw [if_neg c0]
      by_cases c1 : Int.tmod x 4 = 1
      · rw [if_pos c1]
        intro next
        refine Gets.neg c0 (Gets.pos c1 ?_)
        have hl := againT_len n m (L.drop m) 0 []
        refine Gets.bindE (specAgain n m (L.drop m) 0 [] (by omega) hd' (by simp)).ev ?_
        exact Gets.pos (by omega) next
      · rw [if_neg c1]
        by_cases c2 : Int.tmod x 4 = 2
        · rw [if_pos c2]
          intro next
          refine Gets.neg c0 (Gets.neg c1 (Gets.pos c2 ?_))
          rcases th with _ | ⟨p, r⟩
          · exact Gets.neg (by simp) next
          · refine Gets.pos (by rw [List.length_cons]; omega) ?_
            simp only [Option.bind_some, tkRd, List.nil_append]
            rw [show (p :: r).drop 1 = r from rfl]
            rw [List.length_cons] at h5
            simp only at next
            by_cases cl : tkLost x
            · rw [if_pos cl] at next ⊢
              refine Gets.pos cl (Gets.pos (by rw [List.length_cons]; omega) (Gets.pos (by simp only [List.length_nil]; omega) next))
            · rw [if_neg cl] at next ⊢
              refine Gets.neg cl (Gets.pos (by rw [List.length_cons]; omega) ?_)
              obtain ⟨⟨k1, k2⟩, b, k3⟩ := tkRecvB L hL hs g h4 p (h7 p (List.mem_cons_self ..))
              refine Gets.bindE (specRecv 0 0 [] g (L.take g) _ _ _ (by omega) (by simp) ht).ev ?_
              rw [k3]
              refine Gets.bindE (specAgain 0 0 [] _ _ (by omega) (by simp) (by rw [List.length_take]; omega)).ev ?_
              rw [tkAgainB L _ hL hs k2]
              refine Gets.pos (by simp only [List.length_cons, List.length_nil]; omega) (Gets.pos (by rw [List.length_cons]; omega) (Gets.pos (by simp only [List.length_nil]; omega) next))
        · rw [if_neg c2]
          intro next
          refine Gets.neg c0 (Gets.neg c1 (Gets.neg c2 ?_))
          rcases bk with _ | ⟨p, r⟩
          · exact Gets.neg (by simp) next
          · refine Gets.pos (by rw [List.length_cons]; omega) ?_
            simp only [Option.bind_some, tkRd, List.nil_append]
            rw [show (p :: r).drop 1 = r from rfl]
            rw [List.length_cons] at h6
            simp only at next
            by_cases cl : tkLost x
            · rw [if_pos cl] at next ⊢
              refine Gets.pos cl (Gets.pos (by rw [List.length_cons]; omega) (Gets.pos (by simp only [List.length_nil]; omega) next))
            · rw [if_neg cl] at next ⊢
              refine Gets.neg cl (Gets.pos (by rw [List.length_cons]; omega) ?_)
              obtain ⟨a, rfl⟩ := h8 p (List.mem_cons_self ..)
              obtain ⟨⟨k1, k2⟩, k3⟩ := tkRecvA L hL hs n m a h1 h2 h3
              refine Gets.bindE (specRecv n m (L.drop m) 0 [] 0 a (⟨#[]⟩ : ByteArray) (by omega) hd' (by simp)).ev ?_
              rw [k3]
              exact Gets.pos (by rw [List.length_cons]; omega) (Gets.pos (by simp only [List.length_nil]; omega) next)
theorem specTalk_l0 (L : List ByteArray) (ps : List Int) (hI : tkIn L ps) (d : Nat) : ∀ (i : Nat), L.length - i = d → i ≤ L.length → Gets (fun k => spec_Talk.l0 k L ps (i : Int) 0 0 (L.take i) 0 [] 0 0 0) (· = talkT L ps) := by
  have hI' := hI
  obtain ⟨hL, hp, hs, hn⟩ := hI
  induction d with
  | zero =>
    intro i hd hi
    refine Gets.step (fun k => spec_Talk.l0.eq_2 ..) (Gets.neg (by omega) ?_)
    rw [List.take_of_length_le (by omega), talkT_yes hI']
    exact specTalk_l1 L ps hI' ps.length 0 (0, 0, 0, [], []) rfl (by omega) (ok0 L)
  | succ d ih =>
    intro i hd hi
    refine Gets.step (fun k => spec_Talk.l0.eq_2 ..) (Gets.pos (by omega) (Gets.pos (by omega) ?_))
    have e1 : rdOf ByteArray.empty L (i : Int) = L[i] := rdS_get (by omega)
    rw [e1, wrapId (x := (i : Int) + 1) (by omega) (by omega), show (i : Int) + 1 = ((i + 1 : Nat) : Int) by omega]
    refine Gets.bindE (specOffer 0 0 (L.take i) 0 [] L[i] (by omega) (by rw [List.length_take]; omega) (by simp)).ev ?_
    rw [tk_offer L hL hs i (by omega)]
    exact ih (i + 1) (by omega) (by omega)
theorem talkOk_l1 (L : List ByteArray) (ps : List Int) (h0 : L.length ≤ 20 ∧ ps.length ≤ 200 ∧ ∀ s ∈ L, s.size ≤ 60) (d : Nat) : ∀ (i : Nat), ps.length - i = d → i ≤ ps.length → (∀ x ∈ ps.take i, 0 ≤ x) → Gets (fun k => spec_l06TalkOk.l1 k ps (i : Int)) (fun r => r = true ↔ tkIn L ps) := by
  obtain ⟨hL, hp, hs⟩ := h0
  induction d with
  | zero =>
    intro i hd hi hn
    rw [List.take_of_length_le (by omega)] at hn
    exact Gets.step (fun k => spec_l06TalkOk.l1.eq_2 ..) (Gets.neg (by omega) (Gets.ret ⟨fun _ => ⟨hL, hp, hs, hn⟩, fun _ => rfl⟩))
  | succ d ih =>
    intro i hd hi hn
    refine Gets.step (fun k => spec_l06TalkOk.l1.eq_2 ..) (Gets.pos (by omega) (Gets.pos (by omega) ?_))
    have e1 : rd ps (i : Int) = ps[i] := rd_get (by omega)
    rw [e1, wrapId (x := (i : Int) + 1) (by omega) (by omega), show (i : Int) + 1 = ((i + 1 : Nat) : Int) by omega]
    refine Gets.ite (fun h => Gets.ret ⟨fun e => (by cases e), fun e => ?_⟩) (fun h => ih (i + 1) (by omega) (by omega) ?_)
    · have := e.2.2.2 _ (List.getElem_mem (h := (by omega : i < ps.length))); omega
    · intro x hx
      rw [List.take_succ_eq_append_getElem (by omega)] at hx
      rcases List.mem_append.1 hx with hx | hx
      · exact hn x hx
      · rw [List.mem_singleton.1 hx]; omega
theorem talkOk_l0 (L : List ByteArray) (ps : List Int) (h0 : L.length ≤ 20 ∧ ps.length ≤ 200) (d : Nat) : ∀ (i : Nat), L.length - i = d → i ≤ L.length → (∀ s ∈ L.take i, s.size ≤ 60) → Gets (fun k => spec_l06TalkOk.l0 k L ps (i : Int)) (fun r => r = true ↔ tkIn L ps) := by
  obtain ⟨hL, hp⟩ := h0
  induction d with
  | zero =>
    intro i hd hi hn
    rw [List.take_of_length_le (by omega)] at hn
    exact Gets.step (fun k => spec_l06TalkOk.l0.eq_2 ..) (Gets.neg (by omega) (talkOk_l1 L ps ⟨hL, hp, hn⟩ ps.length 0 (by omega) (by omega) (by simp)))
  | succ d ih =>
    intro i hd hi hn
    refine Gets.step (fun k => spec_l06TalkOk.l0.eq_2 ..) (Gets.pos (by omega) (Gets.pos (by omega) ?_))
    have e1 : rdOf ByteArray.empty L (i : Int) = L[i] := rdS_get (by omega)
    rw [e1, wrapId (x := (i : Int) + 1) (by omega) (by omega), show (i : Int) + 1 = ((i + 1 : Nat) : Int) by omega]
    refine Gets.ite (fun h => Gets.ret ⟨fun e => (by cases e), fun e => ?_⟩) (fun h => ih (i + 1) (by omega) (by omega) ?_)
    · have := e.2.2.1 _ (List.getElem_mem (h := (by omega : i < L.length))); omega
    · intro x hx
      rw [List.take_succ_eq_append_getElem (by omega)] at hx
      rcases List.mem_append.1 hx with hx | hx
      · exact hn x hx
      · rw [List.mem_singleton.1 hx]; omega
theorem talkOk (L : List ByteArray) (ps : List Int) : Gets (fun k => spec_l06TalkOk.f k L ps) (fun r => r = true ↔ tkIn L ps) := by
  unfold spec_l06TalkOk.f
  refine Gets.ite (fun h => Gets.step (fun k => spec_l06TalkOk.j0.eq_2 ..) (Gets.pos rfl (Gets.ret ⟨fun e => (by cases e), fun e => (by have := e.1; omega)⟩))) (fun h => ?_)
  refine Gets.step (fun k => spec_l06TalkOk.j0.eq_2 ..) (Gets.ite (fun c => Gets.ret ⟨fun e => (by cases e), fun e => (by have := e.2.1; have := of_decide_eq_true c; omega)⟩) (fun c => ?_))
  have hp : ps.length ≤ 200 := by
    rcases Nat.lt_or_ge 200 ps.length with h1 | h1
    · exact absurd (decide_eq_true (by omega)) c
    · exact h1
  exact talkOk_l0 L ps ⟨by omega, hp⟩ L.length 0 (by omega) (by omega) (by simp)
theorem specTalk (L : List ByteArray) (ps : List Int) : Gets (fun k => spec_Talk.f k L ps) (· = talkT L ps) := by
  unfold spec_Talk.f
  refine Gets.bind (talkOk L ps) (fun t ht => Gets.ite (fun c => specTalk_l0 L ps (ht.1 c) L.length 0 (by omega) (by omega)) (fun c => Gets.ret (talkT_no (fun e => c (ht.2 e))).symm))

/-! ### the reader of draws: it always answers -/
theorem and_i64 (x : Int) (m : Nat) (hm : m < 9223372036854775808) : 0 ≤ Go.bits .and .i64 x (m : Int) ∧ Go.bits .and .i64 x (m : Int) ≤ (m : Int) := by
  have h1 : (BitVec.ofInt IntKind.i64.bits x &&& BitVec.ofInt IntKind.i64.bits (m : Int)).toNat ≤ m := by
    rw [BitVec.toNat_and]
    refine Nat.le_trans Nat.and_le_right ?_
    rw [BitVec.ofInt_natCast, BitVec.toNat_ofNat]
    exact Nat.mod_le _ _
  unfold Go.bits
  simp only [IntKind.wrap_i64]
  omega
theorem and255 (x : Int) : 0 ≤ Go.bits .and .i64 x 255 ∧ Go.bits .and .i64 x 255 < 256 := by
  have h := and_i64 x 255 (by decide)
  rw [show ((255 : Nat) : Int) = 255 from rfl] at h
  omega
theorem wrap_bd (x : Int) : -9223372036854775808 ≤ wrap64 x ∧ wrap64 x ≤ 9223372036854775807 := by unfold wrap64; omega
theorem dByte (l : List Int) (p z : Int) (hl : l.length ≤ 1048576) (hp : 0 ≤ p ∧ p ≤ l.length) : ∃ v p' z', spec_l01Byte.f l p z = some (v, p', z') ∧ (0 ≤ v ∧ v < 256) ∧ 0 ≤ p' ∧ p' ≤ l.length := by
  unfold spec_l01Byte.f
  by_cases h : p < (l.length : Int)
  · rw [if_pos h, if_pos hp.1]
    refine ⟨_, _, _, rfl, and255 _, ?_⟩
    rw [wrapId (by omega) (by omega)]; omega
  · rw [if_neg h]
    exact ⟨_, _, _, rfl, and255 _, hp⟩
theorem dBelow (l : List Int) (p z n : Int) (hl : l.length ≤ 1048576) (hp : 0 ≤ p ∧ p ≤ l.length) (hn : 0 < n) : ∃ v p' z', spec_l01Below.f l p z n = some (v, p', z') ∧ (0 ≤ v ∧ v < n) ∧ 0 ≤ p' ∧ p' ≤ l.length := by
  unfold spec_l01Below.f
  rw [if_neg (by omega)]
  by_cases h : n ≤ 256
  · rw [if_pos h]
    obtain ⟨v, p1, z1, e1, hv, hp1⟩ := dByte l p z hl hp
    rw [e1]
    simp only [Option.bind_some]
    rw [if_neg (by omega)]
    refine ⟨_, _, _, rfl, ?_, hp1⟩
    rw [tmod_nn hv.1]
    exact ⟨Int.emod_nonneg _ (by omega), Int.emod_lt_of_pos _ hn⟩
  · rw [if_neg h]
    obtain ⟨v1, p1, z1, e1, hv1, hp1⟩ := dByte l p z hl hp
    rw [e1]
    simp only [Option.bind_some]
    obtain ⟨v2, p2, z2, e2, hv2, hp2⟩ := dByte l p1 z1 hl hp1
    rw [e2]
    simp only [Option.bind_some]
    obtain ⟨v3, p3, z3, e3, hv3, hp3⟩ := dByte l p2 z2 hl hp2
    rw [e3]
    simp only [Option.bind_some]
    obtain ⟨v4, p4, z4, e4, hv4, hp4⟩ := dByte l p3 z3 hl hp3
    rw [e4]
    simp only [Option.bind_some]
    rw [if_neg (by omega)]
    refine ⟨_, _, _, rfl, ?_, hp4⟩
    rw [wrapId (x := v1 * 16777216) (by omega) (by omega), wrapId (x := v2 * 65536) (by omega) (by omega), wrapId (x := v1 * 16777216 + v2 * 65536) (by omega) (by omega), wrapId (x := v3 * 256) (by omega) (by omega), wrapId (x := v1 * 16777216 + v2 * 65536 + v3 * 256) (by omega) (by omega), wrapId (by omega) (by omega), tmod_nn (by omega)]
    exact ⟨Int.emod_nonneg _ (by omega), Int.emod_lt_of_pos _ hn⟩
theorem dNew_l0 (l : List Int) (hl : l.length ≤ 1048576) (d : Nat) : ∀ (i : Nat) (h : Int), l.length - i = d → i ≤ l.length → Gets (fun k => spec_l01New.l0 k l h (i : Int)) (fun r => r.1 = l ∧ r.2.1 = 0) := by
  induction d with
  | zero =>
    intro i h hd hi
    exact Gets.step (fun k => spec_l01New.l0.eq_2 ..) (Gets.neg (by omega) (Gets.ret ⟨rfl, rfl⟩))
  | succ d ih =>
    intro i h hd hi
    refine Gets.step (fun k => spec_l01New.l0.eq_2 ..) (Gets.pos (by omega) (Gets.ite (fun _ => Gets.pos (by omega) ?_) (fun _ => Gets.ret ⟨rfl, rfl⟩)))
    rw [wrapId (x := (i : Int) + 1) (by omega) (by omega), show ((i : Int) + 1) = ((i + 1 : Nat) : Int) by omega]
    exact ih (i + 1) _ (by omega) (by omega)
theorem dNew (l : List Int) (hl : l.length ≤ 1048576) : Gets (fun k => spec_l01New.f k l) (fun r => r.1 = l ∧ r.2.1 = 0) := by
  unfold spec_l01New.f
  exact dNew_l0 l hl _ 0 _ rfl (by omega)

theorem dPickS (l : List Int) (p z : Int) (m : List ByteArray) (n : Nat) (hl : l.length ≤ 1048576) (hp : 0 ≤ p ∧ p ≤ l.length) (hm : 0 < m.length) (hs : ∀ t ∈ m, t.size ≤ n) : ∃ v p' z', spec_l01Pick.f l p z m = some (v, p', z') ∧ v.size ≤ n ∧ 0 ≤ p' ∧ p' ≤ l.length := by
  unfold spec_l01Pick.f
  obtain ⟨v, p', z', e, hv, hp'⟩ := dBelow l p z (m.length : Int) hl hp (by omega)
  rw [e]
  simp only [Option.bind_some]
  rw [if_pos hv.1, if_pos hv.2]
  refine ⟨_, _, _, rfl, ?_, hp'⟩
  have e2 : rdOf ByteArray.empty m v = m[v.toNat]'(by omega) := rdS_get (by omega)
  rw [e2]
  exact hs _ (List.getElem_mem _)

theorem dLong_l0 (n : Nat) (c : Int) (d : Nat) : ∀ (i : Nat) (acc : List Int), n - i = d → i ≤ n → acc.length = n → n ≤ 1000000 → Gets (fun k => spec_l01Long.l0 k (n : Int) c acc (i : Int)) (fun r => r.size = n) := by
  induction d with
  | zero =>
    intro i acc hd hi ha hn
    exact Gets.step (fun k => spec_l01Long.l0.eq_2 ..) (Gets.neg (by omega) (Gets.ret (by rw [strOfNums_size]; exact ha)))
  | succ d ih =>
    intro i acc hd hi ha hn
    refine Gets.step (fun k => spec_l01Long.l0.eq_2 ..) (Gets.pos (by omega) (Gets.pos (by omega) (Gets.pos (by omega) ?_)))
    rw [wrapId (x := (i : Int) + 1) (by omega) (by omega), show ((i : Int) + 1) = ((i + 1 : Nat) : Int) by omega]
    exact ih (i + 1) _ (by omega) (by omega) (by simpa using ha) hn
theorem dLong (n : Nat) (c : Int) (hn : n ≤ 1000000) : Gets (fun k => spec_l01Long.f k (n : Int) c) (fun r => r.size = n) := by
  unfold spec_l01Long.f
  refine Gets.pos (by omega) (Gets.pos (by omega) ?_)
  exact dLong_l0 n c _ 0 _ rfl (by omega) (by simp) hn

theorem dName3 (l : List Int) (p z : Int) (hl : l.length ≤ 1048576) (hp : 0 ≤ p ∧ p ≤ l.length) : ∃ v p' z', spec_l03Name.f l p z = some (v, p', z') ∧ 0 ≤ p' ∧ p' ≤ l.length := by
  unfold spec_l03Name.f
  obtain ⟨v, p2, z2, e2, _, hp2⟩ := dPickS l p z [(⟨#[97, 110, 110]⟩ : ByteArray), (⟨#[98, 111, 98]⟩ : ByteArray), (⟨#[99, 121]⟩ : ByteArray), (⟨#[100, 52]⟩ : ByteArray), (⟨#[101, 118, 101]⟩ : ByteArray)] 9 hl hp (by simp)
    (by
      intro u hu
      simp only [List.mem_cons, List.not_mem_nil, or_false] at hu
      rcases hu with rfl | rfl | rfl | rfl | rfl <;> decide)
  simp only [e2, Option.bind_some]
  exact ⟨_, _, _, rfl, hp2⟩
theorem dTalk_l2 (l : List Int) (hl : l.length ≤ 1048576) (x7 : List Int) (h7 : x7.length ≤ 201) (d : Nat) : ∀ (a : List ByteArray) (p z : Int), 21 - a.length = d → a.length ≤ 21 → (0 ≤ p ∧ p ≤ l.length) → Gets (fun k => spec_DrawTalk.l2 k a x7 l p z) (fun r => r.1.length ≤ 21 ∧ r.2.length ≤ 201) := by
  induction d with
  | zero =>
    intro a p z hd ha hp
    obtain ⟨v, p1, z1, e1, hv, hp1⟩ := dBelow l p z 2 hl hp (by omega)
    refine Gets.step (fun k => spec_DrawTalk.l2.eq_2 ..) ?_
    simp only [e1, Option.bind_some]
    rw [wrapId (x := 20 + v) (by omega) (by omega)]
    exact Gets.neg (by omega) (Gets.ret ⟨by (try simp only [List.length_append, List.length_cons, List.length_nil]); omega, by (try simp only [List.length_append, List.length_cons, List.length_nil]); omega⟩)
  | succ d ih =>
    intro a p z hd ha hp
    obtain ⟨v, p1, z1, e1, hv, hp1⟩ := dBelow l p z 2 hl hp (by omega)
    refine Gets.step (fun k => spec_DrawTalk.l2.eq_2 ..) ?_
    simp only [e1, Option.bind_some]
    refine Gets.ite (fun _ => Gets.pos (by omega) ?_) (fun _ => Gets.ret ⟨by (try simp only [List.length_append, List.length_cons, List.length_nil]); omega, by (try simp only [List.length_append, List.length_cons, List.length_nil]); omega⟩)
    exact ih _ _ _ (by simp; omega) (by simp; omega) hp1
theorem dTalk_l1 (x0 l : List Int) (hx : x0.length ≤ 1048576) (hl : l.length ≤ 1048576) (a : List ByteArray) (ha : a.length ≤ 9) (d : Nat) : ∀ (i : Nat) (x7 : List Int) (p z : Int), 200 - i = d → i ≤ 200 → x7.length = i → (0 ≤ p ∧ p ≤ l.length) → Gets (fun k => spec_DrawTalk.l1 k x0 a x7 (i : Int) l p z) (fun r => r.1.length ≤ 21 ∧ r.2.length ≤ 201) := by
  have hm : ∀ v : Int, 0 ≤ v ∧ v < 40 → 0 ≤ wrap64 (v + Int.tmod (wrap64 ((x0.length : Int) / 4)) 100) ∧ wrap64 (v + Int.tmod (wrap64 ((x0.length : Int) / 4)) 100) < 140 := by
    intro v hv
    rw [wrapId (x := (x0.length : Int) / 4) (by omega) (by omega), tmod_nn (by omega), wrapId (by omega) (by omega)]
    omega
  induction d with
  | zero =>
    intro i x7 p z hd hi h7 hp
    obtain ⟨v, p1, z1, e1, hv, hp1⟩ := dBelow l p z 40 hl hp (by omega)
    refine Gets.step (fun k => spec_DrawTalk.l1.eq_2 ..) ?_
    simp only [e1, Option.bind_some]
    have := hm v hv
    refine Gets.neg (by omega) ?_
    obtain ⟨v2, p2, z2, e2, hv2, hp2⟩ := dBelow l p1 z1 20 hl hp1 (by omega)
    simp only [e2, Option.bind_some]
    refine Gets.ite (fun _ => Gets.pos (by omega) (Gets.ret ⟨by (try simp only [List.length_append, List.length_cons, List.length_nil]); omega, by (try simp only [List.length_append, List.length_cons, List.length_nil]); omega⟩)) (fun _ => Gets.ite (fun _ => Gets.bind (dLong 61 65 (by omega)) (fun t _ => Gets.pos (by omega) (Gets.ret ⟨by (try simp only [List.length_append, List.length_cons, List.length_nil]); omega, by (try simp only [List.length_append, List.length_cons, List.length_nil]); omega⟩))) (fun _ => Gets.ite (fun _ => dTalk_l2 l hl x7 (by omega) _ a p2 z2 rfl (by omega) hp2) (fun _ => Gets.ret ⟨by (try simp only [List.length_append, List.length_cons, List.length_nil]); omega, by (try simp only [List.length_append, List.length_cons, List.length_nil]); omega⟩)))
  | succ d ih =>
    intro i x7 p z hd hi h7 hp
    obtain ⟨v, p1, z1, e1, hv, hp1⟩ := dBelow l p z 40 hl hp (by omega)
    refine Gets.step (fun k => spec_DrawTalk.l1.eq_2 ..) ?_
    simp only [e1, Option.bind_some]
    refine Gets.ite (fun _ => ?_) (fun _ => ?_)
    · obtain ⟨v2, p2, z2, e2, hv2, hp2⟩ := dBelow l p1 z1 12 hl hp1 (by omega)
      simp only [e2, Option.bind_some]
      rw [wrapId (x := (i : Int) + 1) (by omega) (by omega), show (i : Int) + 1 = ((i + 1 : Nat) : Int) by omega]
      exact Gets.pos (by omega) (ih (i + 1) _ _ _ (by omega) (by omega) (by simp [h7]) hp2)
    · obtain ⟨v2, p2, z2, e2, hv2, hp2⟩ := dBelow l p1 z1 20 hl hp1 (by omega)
      simp only [e2, Option.bind_some]
      refine Gets.ite (fun _ => Gets.pos (by omega) (Gets.ret ⟨by (try simp only [List.length_append, List.length_cons, List.length_nil]); omega, by (try simp only [List.length_append, List.length_cons, List.length_nil]); omega⟩)) (fun _ => Gets.ite (fun _ => Gets.bind (dLong 61 65 (by omega)) (fun t _ => Gets.pos (by omega) (Gets.ret ⟨by (try simp only [List.length_append, List.length_cons, List.length_nil]); omega, by (try simp only [List.length_append, List.length_cons, List.length_nil]); omega⟩))) (fun _ => Gets.ite (fun _ => dTalk_l2 l hl x7 (by omega) _ a p2 z2 rfl (by omega) hp2) (fun _ => Gets.ret ⟨by (try simp only [List.length_append, List.length_cons, List.length_nil]); omega, by (try simp only [List.length_append, List.length_cons, List.length_nil]); omega⟩)))
theorem dTalk_l0 (x0 l : List Int) (hx : x0.length ≤ 1048576) (hl : l.length ≤ 1048576) (d : Nat) : ∀ (i : Nat) (a : List ByteArray) (p z : Int), 9 - i = d → i ≤ 9 → a.length = i → (0 ≤ p ∧ p ≤ l.length) → Gets (fun k => spec_DrawTalk.l0 k x0 a (i : Int) l p z) (fun r => r.1.length ≤ 21 ∧ r.2.length ≤ 201) := by
  induction d with
  | zero =>
    intro i a p z hd hi ha hp
    obtain ⟨v, p1, z1, e1, hv, hp1⟩ := dBelow l p z 9 hl hp (by omega)
    refine Gets.step (fun k => spec_DrawTalk.l0.eq_2 ..) ?_
    simp only [e1, Option.bind_some]
    exact Gets.neg (by omega) (dTalk_l1 x0 l hx hl a (by omega) 200 0 [] p1 z1 rfl (by omega) rfl hp1)
  | succ d ih =>
    intro i a p z hd hi ha hp
    obtain ⟨v, p1, z1, e1, hv, hp1⟩ := dBelow l p z 9 hl hp (by omega)
    refine Gets.step (fun k => spec_DrawTalk.l0.eq_2 ..) ?_
    simp only [e1, Option.bind_some]
    refine Gets.ite (fun _ => ?_) (fun _ => dTalk_l1 x0 l hx hl a (by omega) 200 0 [] p1 z1 rfl (by omega) rfl hp1)
    obtain ⟨v2, p2, z2, e2, hp2⟩ := dName3 l p1 z1 hl hp1
    simp only [e2, Option.bind_some]
    rw [wrapId (x := (i : Int) + 1) (by omega) (by omega), show (i : Int) + 1 = ((i + 1 : Nat) : Int) by omega]
    exact Gets.pos (by omega) (ih (i + 1) _ _ _ (by omega) (by omega) (by simp [ha]) hp2)
theorem dTalk (l : List Int) (hl : l.length ≤ 1048576) : Gets (fun k => spec_DrawTalk.f k l) (fun r => r.1.length ≤ 21 ∧ r.2.length ≤ 201) := by
  unfold spec_DrawTalk.f
  refine Gets.bind (dNew l hl) (fun c hc => ?_)
  obtain ⟨c1, c2, c3⟩ := c
  obtain ⟨h1, h2⟩ := hc
  simp only at h1 h2
  subst h1 h2
  exact dTalk_l0 c1 c1 hl hl 9 0 [] 0 c3 rfl (by omega) rfl (by omega)

theorem sameTexts_l0 (a b : List ByteArray) (ha : a.length ≤ 35184372088832) (hab : a.length = b.length) (d : Nat) : ∀ i : Nat, a.length - i = d → i ≤ a.length → Gets (fun k => laws_sameTexts.l0 k a b (i : Int)) (fun r => r = true ↔ a.drop i = b.drop i) := by
  induction d with
  | zero =>
    intro i hd hi
    refine Gets.step (fun k => laws_sameTexts.l0.eq_2 ..) (Gets.neg (by omega) (Gets.ret ?_))
    rw [List.drop_of_length_le (by omega), List.drop_of_length_le (by omega)]
    simp
  | succ d ih =>
    intro i hd hi
    refine Gets.step (fun k => laws_sameTexts.l0.eq_2 ..) (Gets.pos (by omega) (Gets.pos (by omega) (Gets.pos (by omega) ?_)))
    have e1 : rdOf ByteArray.empty a (i : Int) = a[i] := rdS_get (by omega)
    have e2 : rdOf ByteArray.empty b (i : Int) = b[i] := rdS_get (by omega)
    simp only [e1, e2]
    rw [wrapId (by omega) (by omega), drop_at a i (by omega), drop_at b i (by omega)]
    refine Gets.ite (fun h => ?_) (fun h => Gets.ret ?_)
    · rw [show ((i : Int) + 1) = ((i + 1 : Nat) : Int) by omega]
      refine (ih (i + 1) (by omega) (by omega)).mono (fun r hr => ?_)
      rw [hr]
      simp only [List.cons.injEq, (toList_iff _ _).1 h, true_and]
    · have hne : ¬ a[i] = b[i] := fun e => h (by rw [e])
      simp only [List.cons.injEq, hne, false_and, Bool.false_eq_true]
theorem sameTexts_true (a : List ByteArray) (ha : a.length ≤ 35184372088832) : Gets (fun k => laws_sameTexts.f k a a) (· = true) := by
  unfold laws_sameTexts.f
  exact Gets.pos rfl ((sameTexts_l0 a a ha rfl a.length 0 (by omega) (by omega)).mono (fun r hr => hr.2 rfl))

theorem links_end (L : List ByteArray) (x : List ByteArray) (ps : List Int) (hI : tkIn L ps) (hg : x.length ≤ (L.take (talkG L ps)).length) : Gets (fun k => (impl_Talk.f k L ps).bind fun bt => (if bt.2 = true then (some (decide ((bt.1.length : Int) ≥ (x.length : Int)))) else (some false))) (· = true) := by
  refine Gets.bindE (implTalk L ps (by have := hI.1; omega) (by have := hI.2.1; omega)).ev ?_
  rw [talkT_yes hI]
  exact Gets.pos rfl (Gets.ret (decide_eq_true (by simp only; omega)))
theorem tkG_up (L : List ByteArray) (ps qs : List Int) (hI : tkIn L (ps ++ qs)) : (L.take (talkG L ps)).length ≤ (L.take (talkG L (ps ++ qs))).length := by
  have h : talkG L ps ≤ talkG L (ps ++ qs) := by
    unfold talkG
    rw [tkFin_app]
    obtain ⟨_, h2⟩ := tkFin_up L hI.1 hI.2.2.1 ps 0 _ (ok0 L)
    exact (tkFin_up L hI.1 hI.2.2.1 qs _ _ h2).1
  simp only [List.length_take]
  omega
theorem links_l0 (L : List ByteArray) (ps : List Int) (d : Nat) : ∀ (i : Nat) (qs : List Int), 60 - i = d → i ≤ 60 → tkIn L (ps ++ qs) → Gets (fun k => laws_FnLinks.l0 k L (L.take (talkG L ps)) (ps ++ qs) (i : Int)) (· = true) := by
  induction d with
  | zero =>
    intro i qs hd hi hI
    refine Gets.step (fun k => laws_FnLinks.l0.eq_2 ..) (Gets.neg (by omega) ?_)
    exact links_end L _ _ hI (tkG_up L ps qs hI)
  | succ d ih =>
    intro i qs hd hi hI
    refine Gets.step (fun k => laws_FnLinks.l0.eq_2 ..) (Gets.pos (by omega) ?_)
    refine Gets.ite (fun h => ?_) (fun _ => links_end L _ _ hI (tkG_up L ps qs hI))
    have hm : 0 ≤ Int.tmod (i : Int) 4 ∧ Int.tmod (i : Int) 4 < 4 := by rw [tmod_nn (by omega)]; omega
    simp only [Option.bind_some]
    refine Gets.pos hm.1 (Gets.pos (by simp only [List.length_cons, List.length_nil]; omega) (Gets.pos (by have := hI.2.1; omega) ?_))
    rw [wrapId (x := (i : Int) + 1) (by omega) (by omega), show (i : Int) + 1 = ((i + 1 : Nat) : Int) by omega, List.append_assoc]
    refine ih (i + 1) _ (by omega) (by omega) ?_
    rw [← List.append_assoc]
    refine ⟨hI.1, by rw [List.length_append, List.length_cons, List.length_nil]; omega, hI.2.2.1, ?_⟩
    intro x hx
    rcases List.mem_append.1 hx with hx | hx
    · exact hI.2.2.2 x hx
    · rw [List.mem_singleton.1 hx, rd_get (by simp only [List.length_cons, List.length_nil]; omega)]
      have hall : ∀ y ∈ ([1, 2, 3, 0] : List Int), 0 ≤ y := by decide
      exact hall _ (List.getElem_mem _)
theorem FnLinks : Stat.FnLinks := by
  intro l _
  refine Gets.rounds ?_
  unfold laws_FnLinks.f laws_big.f
  simp only [Option.bind_some]
  refine Gets.ite (fun _ => Gets.ret rfl) (fun h => ?_)
  have hl : l.length ≤ 1048576 := by
    rcases Nat.lt_or_ge 1048576 l.length with h1 | h1
    · exact absurd (decide_eq_true (by omega)) h
    · exact h1
  refine Gets.bind (dTalk l hl) (fun a ha => ?_)
  obtain ⟨L, ps⟩ := a
  obtain ⟨hL, hp⟩ := ha
  simp only at hL hp ⊢
  refine Gets.bindE (implTalk L ps (by omega) (by omega)).ev (Gets.bindE (specTalk L ps).ev (Gets.neg (by simp) ?_))
  by_cases hI : tkIn L ps
  · rw [talkT_yes hI]
    have hg : (L.take (talkG L ps)).length ≤ L.length := by rw [List.length_take]; omega
    refine Gets.bind (sameTexts_true _ (by simp only; omega)) (fun t ht => ?_)
    subst ht
    refine Gets.step (fun k => laws_FnLinks.j0.eq_2 ..) (Gets.neg (by simp) (Gets.pos rfl (Gets.neg (by simp only; omega) (Gets.pos (by omega) (Gets.pos (by simp only; omega) ?_)))))
    have e : L.take (((L.take (talkG L ps)).length : Int)).toNat = L.take (talkG L ps) := by
      rw [Int.toNat_natCast, List.length_take]
      rcases Nat.le_total (talkG L ps) L.length with c | c
      · rw [Nat.min_eq_left c]
      · rw [Nat.min_eq_right c, List.take_of_length_le (Nat.le_refl _), List.take_of_length_le c]
    simp only [e]
    refine Gets.bind (sameTexts_true _ (by omega)) (fun t ht => ?_)
    subst ht
    refine Gets.step (fun k => laws_FnLinks.j1.eq_2 ..) (Gets.neg (by simp) ?_)
    simp only [Option.bind_some, List.nil_append]
    refine Gets.pos (by simp only [List.length_nil]; omega) ?_
    have := links_l0 L ps 60 0 [] rfl (by omega) (by rw [List.append_nil]; exact hI)
    rw [List.append_nil] at this
    exact this
  · rw [talkT_no hI]
    refine Gets.bind (sameTexts_true _ (by simp)) (fun t ht => ?_)
    subst ht
    exact Gets.step (fun k => laws_FnLinks.j0.eq_2 ..) (Gets.neg (by simp) (Gets.neg (by simp) (Gets.ret rfl)))

end Go.Proofs.Ytlidnobkkgcnlaa.Pure
