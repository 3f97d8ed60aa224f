/- For every code, a frame with one byte of its text or its sum turned is bad, and nothing comes of it any more, or its sum is the same modulo 65536. -/
import Derived.Test.YtfakkehopmihoaaStatFnTorn
import Derived.Lib.Strings
set_option linter.unusedVariables false
set_option linter.unusedSimpArgs false
namespace Go.Proofs.Ytfakkehopmihoaa.Pure
open Go.RowKit Go.Proofs.Ytfakkehopmihoaa.PFnTorn Go.Proofs.YtfakkehopmihoaaW.PrintWords Go.Proofs.YtfakkehopmihoaaW.PrintLast

/-! ### plain words: from some number of rounds on -/
def Gets {α : Type} (f : Nat → Option α) (Q : α → Prop) : Prop := ∃ r, Ev f r ∧ Q r
theorem Gets.ret {α : Type} {Q : α → Prop} {r : α} (h : Q r) : Gets (fun _ => some r) Q := ⟨r, Ev.now r, h⟩
theorem Gets.none {α : Type} {Q : α → Prop} (h : False) : Gets (fun _ => (Option.none : Option α)) Q := h.elim
theorem Gets.step {α : Type} {g f : Nat → Option α} {Q : α → Prop} (h : ∀ k, g (k + 1) = f k) (k : Gets f Q) : Gets g Q := by
  obtain ⟨r, hr, hq⟩ := k
  exact ⟨r, Ev.step h hr, hq⟩
theorem Ev.ite {α : Type} {c : Prop} [Decidable c] {f g : Nat → Option α} {r : α} (h : c → Ev f r) (k : ¬ c → Ev g r) : Ev (fun n => if c then f n else g n) r := by
  by_cases hc : c
  · simp only [hc, if_true]; exact h hc
  · simp only [hc, if_false]; exact k hc
theorem Gets.ite {α : Type} {c : Prop} [Decidable c] {f g : Nat → Option α} {Q : α → Prop} (h : c → Gets f Q) (k : ¬ c → Gets g Q) : Gets (fun n => if c then f n else g n) Q := by
  by_cases hc : c
  · simp only [hc, if_true]; exact h hc
  · simp only [hc, if_false]; exact k hc
theorem Gets.pos {α : Type} {c : Prop} [Decidable c] {f g : Nat → Option α} {Q : α → Prop} (hc : c) (h : Gets f Q) : Gets (fun n => if c then f n else g n) Q := by
  simp only [hc, if_true]; exact h
theorem Gets.neg {α : Type} {c : Prop} [Decidable c] {f g : Nat → Option α} {Q : α → Prop} (hc : ¬ c) (h : Gets g Q) : Gets (fun n => if c then f n else g n) Q := by
  simp only [hc, if_false]; exact h
theorem Gets.bind {α β : Type} {g : Nat → Option α} {f : Nat → α → Option β} {P : α → Prop} {Q : β → Prop} (h : Gets g P) (k : ∀ a, P a → Gets (fun n => f n a) Q) : Gets (fun n => (g n).bind (f n)) Q := by
  obtain ⟨a, ha, hp⟩ := h
  obtain ⟨r, hr, hq⟩ := k a hp
  exact ⟨r, Ev.bind ha hr, hq⟩
theorem Gets.bindE {α β : Type} {g : Nat → Option α} {f : Nat → α → Option β} {a : α} {Q : β → Prop} (h : Ev g a) (k : Gets (fun n => f n a) Q) : Gets (fun n => (g n).bind (f n)) Q := by
  obtain ⟨r, hr, hq⟩ := k
  exact ⟨r, Ev.bind h hr, hq⟩
theorem Gets.mono {α : Type} {f : Nat → Option α} {P Q : α → Prop} (h : Gets f P) (k : ∀ a, P a → Q a) : Gets f Q := by
  obtain ⟨r, hr, hp⟩ := h
  exact ⟨r, hr, k r hp⟩
theorem Gets.rounds {α : Type} {f : Nat → Option α} {r : α} (h : Gets f (· = r)) : ∃ k, f k = some r := by
  obtain ⟨a, ha, rfl⟩ := h
  exact ha.rounds
theorem Gets.ev {α : Type} {f : Nat → Option α} {r : α} (h : Gets f (· = r)) : Ev f r := by
  obtain ⟨a, ha, rfl⟩ := h
  exact ha
theorem Ev.gets {α : Type} {f : Nat → Option α} {r : α} {Q : α → Prop} (h : Ev f r) (hq : Q r) : Gets f Q := ⟨r, h, hq⟩
theorem Gets.same {α : Type} {o : Option α} {Q : α → Prop} {r : α} (h : o = some r) (hq : Q r) : Gets (fun _ => o) Q := by
  subst h; exact Gets.ret hq
theorem wrapId {x : Int} (h0 : -9223372036854775808 ≤ x) (h1 : x ≤ 9223372036854775807) : wrap64 x = x := by
  unfold wrap64; omega
theorem i64_bd {n : Int} (h : (Lit.int .i64 n).wf = true) : -9223372036854775808 ≤ n ∧ n ≤ 9223372036854775807 := by
  have hm : IntKind.i64.min = -9223372036854775808 := rfl
  simp [Lit.wf, hm] at h
  exact h
theorem boolEq {a b : Bool} {P Q : Prop} (ha : a = true ↔ P) (hb : b = true ↔ Q) (h : P ↔ Q) : a = b := by
  rw [Bool.eq_iff_iff, ha, hb, h]
theorem tmod_nn {a b : Int} (h : 0 ≤ a) : Int.tmod a b = a % b := Int.tmod_eq_emod_of_nonneg h
theorem tdiv_nn {a b : Int} (h : 0 ≤ a) : Int.tdiv a b = a / b := Int.tdiv_eq_ediv_of_nonneg h

/-! ### check sums -/
def hf (x : Int) : Int := if x % 2 = 1 then Go.bits .xor .u32 (x / 2) 3558460437 else x / 2
def hfs : Nat → Int → Int
  | 0, x => x
  | n + 1, x => hfs n (hf x)
def crcL (x : Int) (l : List Int) : Int := l.foldl (fun x b => hfs 8 (Go.bits .xor .u32 x b)) x
theorem u32_wrap (n : Int) : IntKind.u32.wrap n = n % 4294967296 := IntKind.wrap_u32 n
theorem xor_bd (a b : Int) : 0 ≤ Go.bits .xor .u32 a b ∧ Go.bits .xor .u32 a b < 4294967296 := by
  unfold Go.bits
  simp only [u32_wrap]
  omega
theorem and1 (x : Int) (h0 : 0 ≤ x) (h1 : x < 4294967296) : Go.bits .and .u32 x 1 = x % 2 :=
  Go.bits_mask .u32 32 (by decide) (fun n a b => by rw [u32_wrap]; omega) 1 (by decide) x h0 (by simpa using h1)
theorem hf_bd {x : Int} (h0 : 0 ≤ x) (h1 : x < 4294967296) : 0 ≤ hf x ∧ hf x < 4294967296 := by
  unfold hf
  split
  · exact xor_bd _ _
  · omega
theorem hfs_bd : ∀ (n : Nat) {x : Int}, 0 ≤ x → x < 4294967296 → 0 ≤ hfs n x ∧ hfs n x < 4294967296
  | 0, x, h0, h1 => ⟨h0, h1⟩
  | n + 1, x, h0, h1 => hfs_bd n (hf_bd h0 h1).1 (hf_bd h0 h1).2
theorem crcL_bd (l : List Int) : ∀ {x : Int}, 0 ≤ x → x < 4294967296 → 0 ≤ crcL x l ∧ crcL x l < 4294967296 := by
  induction l with
  | nil => intro x h0 h1; exact ⟨h0, h1⟩
  | cons b l ih => intro x h0 h1; exact ih (hfs_bd 8 (xor_bd x b).1 (xor_bd x b).2).1 (hfs_bd 8 (xor_bd x b).1 (xor_bd x b).2).2
theorem bytes_drop (s : ByteArray) (i : Int) (h0 : 0 ≤ i) (h1 : i < s.size) : (bytesOf s).drop i.toNat = bt s i :: (bytesOf s).drop (i + 1).toNat := by
  have hl : (bytesOf s).length = s.size := bytesOf_length s
  rw [List.drop_eq_getElem_cons (by omega), show (i + 1).toNat = i.toNat + 1 by omega]
  congr 1
  unfold bt bytesOf
  rw [dif_pos (by omega)]
  simp
  rfl

theorem implSum_l1 (s : ByteArray) (i : Int) (Q : Int → Prop) (d : Nat) : ∀ x j : Int, 0 ≤ x → x < 4294967296 → 0 ≤ j → 8 - j = d → Gets (fun k => impl_SumMore.l0 k (hfs d x) s (wrap64 (i + 1))) Q → Gets (fun k => impl_SumMore.l1 k x s i j) Q := by
  induction d with
  | zero =>
    intro x j h0 h1 h2 hd h
    refine Gets.step (fun k => impl_SumMore.l1.eq_2 ..) ?_
    exact Gets.neg (by omega) h
  | succ d ih =>
    intro x j h0 h1 h2 hd h
    refine Gets.step (fun k => impl_SumMore.l1.eq_2 ..) ?_
    refine Gets.pos (by omega) ?_
    rw [and1 x h0 h1, wrapId (by omega) (by omega)]
    have hb := hf_bd h0 h1
    have hh : hfs (d + 1) x = hfs d (hf x) := rfl
    rw [hh] at h
    refine Gets.ite (fun hc => ?_) (fun hc => ?_)
    · have e : hf x = Go.bits .xor .u32 (x / 2) 3558460437 := by unfold hf; rw [if_pos hc]
      rw [e] at h hb
      exact ih _ _ hb.1 hb.2 (by omega) (by omega) h
    · have e : hf x = x / 2 := by unfold hf; rw [if_neg hc]
      rw [e] at h hb
      exact ih _ _ hb.1 hb.2 (by omega) (by omega) h
theorem implSum_l0 (s : ByteArray) (hs : s.size ≤ 140737488351232) (d : Nat) : ∀ x i : Int, 0 ≤ x → x < 4294967296 → 0 ≤ i → (s.size : Int) - i = d → Gets (fun k => impl_SumMore.l0 k x s i) (· = crcL x ((bytesOf s).drop i.toNat)) := by
  induction d with
  | zero =>
    intro x i h0 h1 h2 hd
    refine Gets.step (fun k => impl_SumMore.l0.eq_2 ..) ?_
    refine Gets.neg (by omega) (Gets.ret ?_)
    rw [List.drop_of_length_le (by rw [bytesOf_length]; omega)]
    rfl
  | succ d ih =>
    intro x i h0 h1 h2 hd
    refine Gets.step (fun k => impl_SumMore.l0.eq_2 ..) ?_
    refine Gets.pos (by omega) (Gets.pos h2 ?_)
    have hr := bt_range s i
    rw [show bt s i % 4294967296 = bt s i by omega]
    refine implSum_l1 s i _ 8 _ 0 (xor_bd _ _).1 (xor_bd _ _).2 (by omega) (by omega) ?_
    rw [wrapId (by omega) (by omega), bytes_drop s i h2 (by omega)]
    have hb := hfs_bd 8 (xor_bd x (bt s i)).1 (xor_bd x (bt s i)).2
    exact ih _ (i + 1) hb.1 hb.2 (by omega) (by omega)
theorem implSumMore (x : Int) (s : ByteArray) (h0 : 0 ≤ x) (h1 : x < 4294967296) (hs : s.size ≤ 140737488351232) : Gets (fun k => impl_SumMore.f k x s) (· = crcL x (bytesOf s)) := by
  unfold impl_SumMore.f
  exact implSum_l0 s hs s.size x 0 h0 h1 (by omega) (by omega)

def four (n : Int) : List Int := [n / 16777216 % 256, n / 65536 % 256, n / 256 % 256, n % 256]
def sumT (s : ByteArray) : ByteArray := strOfNums (four (crcL 4294967295 (bytesOf s)))
theorem sumT_size (s : ByteArray) : (sumT s).size = 4 := by unfold sumT; rw [strOfNums_size]; rfl

theorem implSumOf (s : ByteArray) (hs : s.size ≤ 140737488351232) : Gets (fun k => impl_SumOf.f k s) (· = crcL 4294967295 (bytesOf s)) := by
  unfold impl_SumOf.f
  exact Gets.bind (implSumMore _ s (by omega) (by omega) hs) (fun a ha => Gets.ret ha)
theorem implSumText (s : ByteArray) (hs : s.size ≤ 140737488351232) : Gets (fun k => impl_sumText.f k s) (· = sumT s) := by
  unfold impl_sumText.f
  refine Gets.bind (implSumOf s hs) (fun a ha => Gets.ret ?_)
  subst ha
  rfl

/-! ### texts as lists of numbers -/
theorem bytesOf_inj {a b : ByteArray} (h : bytesOf a = bytesOf b) : a = b := by
  have hl : a.data.toList = b.data.toList := by
    unfold bytesOf at h
    exact List.map_inj_right (fun x y hxy => UInt8.toNat_inj.1 (by exact_mod_cast hxy)) |>.1 h
  have hd : a.data = b.data := Array.toList_inj.1 hl
  cases a; cases b; cases hd; rfl
theorem toList_iff (a b : ByteArray) : a.toList = b.toList ↔ a = b := by
  rw [Lib.toList_data, Lib.toList_data]
  exact ⟨fun h => bytesOf_inj (by unfold bytesOf; rw [h]), fun h => by rw [h]⟩
theorem bytesOf_range {s : ByteArray} {x : Int} (h : x ∈ bytesOf s) : 0 ≤ x ∧ x < 256 := by
  unfold bytesOf at h
  obtain ⟨b, _, rfl⟩ := List.mem_map.1 h
  have := b.toNat_lt
  omega
theorem bytesOf_str {xs : List Int} (h : ∀ x ∈ xs, 0 ≤ x ∧ x < 256) : bytesOf (strOfNums xs) = xs := by
  unfold bytesOf
  rw [strOfNums_data, List.map_map]
  conv => rhs; rw [← List.map_id xs]
  refine List.map_congr_left (fun x hx => ?_)
  have := h x hx
  simp only [Function.comp, UInt8.toNat_ofNat', id]
  omega
theorem str_bytesOf (s : ByteArray) : strOfNums (bytesOf s) = s := bytesOf_inj (bytesOf_str (fun _ => bytesOf_range))
theorem bytesOf_extract (s : ByteArray) (a b : Nat) : bytesOf (s.extract a b) = ((bytesOf s).drop a).take (b - a) := by
  unfold bytesOf
  rw [Lib.extract_data, List.map_take, List.map_drop]
theorem bytesOf_app (a b : ByteArray) : bytesOf (a ++ b) = bytesOf a ++ bytesOf b := by
  unfold bytesOf
  rw [← List.map_append]
  congr 1
  first | done | simp
theorem bt_getD (s : ByteArray) (i : Int) : bt s i = (bytesOf s).getD i.toNat 0 := (rd_bytesOf s i).symm
theorem bytesOf_empty : bytesOf (⟨#[]⟩ : ByteArray) = [] := rfl
theorem size_eq (s : ByteArray) : s.size = (bytesOf s).length := (bytesOf_length s).symm
theorem size_app (a b : ByteArray) : (a ++ b).size = a.size + b.size := by simp

theorem str_app (xs ys : List Int) : strOfNums xs ++ strOfNums ys = strOfNums (xs ++ ys) := by
  have h : ∀ zs, bytesOf (strOfNums zs) = zs.map (fun n => ((UInt8.ofNat n.toNat).toNat : Int)) := fun zs => by
    unfold bytesOf; rw [strOfNums_data, List.map_map]; rfl
  refine bytesOf_inj ?_
  rw [bytesOf_app, h, h, h, List.map_append]
theorem bap_assoc (a b c : ByteArray) : (a ++ b) ++ c = a ++ (b ++ c) := bytesOf_inj (by rw [bytesOf_app, bytesOf_app, bytesOf_app, bytesOf_app, List.append_assoc])

theorem implHalf (s : ByteArray) (hs : s.size ≤ 140737488351232) : Gets (fun k => impl_halfSum.f k s) (· = (sumT s).extract 2 (sumT s).size) := by
  unfold impl_halfSum.f
  exact Gets.bindE (implSumText s hs).ev (Gets.pos (by rw [sumT_size]; omega) (Gets.ret rfl))
def halfL (s : ByteArray) : List Int := [crcL 4294967295 (bytesOf s) / 256 % 256, crcL 4294967295 (bytesOf s) % 256]
theorem four_range (n : Int) : ∀ x ∈ four n, 0 ≤ x ∧ x < 256 := by
  intro x hx
  simp only [four, List.mem_cons, List.not_mem_nil, or_false] at hx
  rcases hx with rfl | rfl | rfl | rfl <;> omega
theorem half_bytes (s : ByteArray) : bytesOf ((sumT s).extract 2 (sumT s).size) = halfL s := by
  rw [bytesOf_extract, sumT_size]
  unfold sumT
  rw [bytesOf_str (four_range _)]
  rfl
theorem half_str (s : ByteArray) : (sumT s).extract 2 (sumT s).size = strOfNums (halfL s) := by
  refine bytesOf_inj ?_
  rw [half_bytes, bytesOf_str]
  intro x hx
  simp only [halfL, List.mem_cons, List.not_mem_nil, or_false] at hx
  rcases hx with rfl | rfl <;> omega
def frameT (s : ByteArray) : ByteArray := strOfNums ((s.size : Int) :: halfL s) ++ s

/-! ### rows of numbers -/
theorem rd_get {l : List Int} {i : Int} (h : i.toNat < l.length) : rd l i = l[i.toNat] := by
  unfold rd; rw [List.getD_eq_getElem?_getD, List.getElem?_eq_getElem h]; rfl
theorem fill_step {α : Type} (l : List α) (d : α) (i : Nat) (h : i < l.length) : (l.take i ++ List.replicate (l.length - i) d).set i l[i] = l.take (i + 1) ++ List.replicate (l.length - (i + 1)) d := by
  have e : List.replicate (l.length - i) d = d :: List.replicate (l.length - (i + 1)) d := by
    rw [show l.length - i = (l.length - (i + 1)) + 1 by omega]; rfl
  rw [e, List.set_append_right _ _ (by rw [List.length_take]; omega), List.length_take, show i - min i l.length = 0 by omega, List.set_cons_zero, List.take_succ_eq_append_getElem h, List.append_assoc]
  rfl
theorem drop_at {α : Type} (l : List α) (i : Nat) (h : i < l.length) : l.drop i = l[i] :: l.drop (i + 1) := List.drop_eq_getElem_cons h
def marks (k : Int) (n : Nat) : List Int := (List.range n).map (fun (i : Nat) => k + (i : Int))
theorem marks_length (k : Int) (n : Nat) : (marks k n).length = n := by simp [marks]
theorem marks_get (k : Int) (n i : Nat) (h : i < n) : (marks k n)[i]'(by rw [marks_length]; exact h) = k + i := by simp [marks]

theorem rdS_get {l : List ByteArray} {i : Int} (h : i.toNat < l.length) : rdOf ByteArray.empty l i = l[i.toNat] := by
  unfold rdOf; rw [List.getD_eq_getElem?_getD, List.getElem?_eq_getElem h]; rfl
def shortL (l : List ByteArray) : Bool := l.all (fun s => decide ((s.size : Int) ≤ 60))
theorem shortL_iff (l : List ByteArray) : shortL l = true ↔ ∀ s ∈ l, s.size ≤ 60 := by
  unfold shortL
  rw [List.all_eq_true]
  exact ⟨fun h s hs => by have := of_decide_eq_true (h s hs); omega, fun h s hs => decide_eq_true (by have := h s hs; omega)⟩
theorem shortL_cons (s : ByteArray) (l : List ByteArray) : shortL (s :: l) = (decide ((s.size : Int) ≤ 60) && shortL l) := rfl

theorem bext2 (s : ByteArray) (i a b : Nat) (hb : i + b ≤ s.size) : (s.extract i s.size).extract a b = s.extract (i + a) (i + b) := by
  refine bytesOf_inj ?_
  rw [bytesOf_extract, bytesOf_extract, bytesOf_extract]
  have h := size_eq s
  rw [List.drop_take, List.drop_drop, List.take_take]
  congr 1
  omega
theorem bext_size (s : ByteArray) (a b : Nat) (hb : b ≤ s.size) : (s.extract a b).size = b - a := by
  rw [size_eq, bytesOf_extract]
  have h := size_eq s
  simp only [List.length_take, List.length_drop]
  omega
theorem bt_ext (s : ByteArray) (i : Nat) (h : i < s.size) : bt (s.extract i s.size) 0 = bt s (i : Int) := by
  rw [bt_getD, bt_getD, bytesOf_extract]
  have h1 := size_eq s
  simp only [List.getD_eq_getElem?_getD, Int.toNat_zero, Int.toNat_natCast]
  rw [List.getElem?_take_of_lt (by omega), List.getElem?_drop]
  simp
theorem bext_full (s : ByteArray) : s.extract 0 s.size = s := bytesOf_inj (by rw [bytesOf_extract]; have h := size_eq s; simp only [List.drop_zero, Nat.sub_zero]; rw [List.take_of_length_le (by omega)])
theorem bt_bd (s : ByteArray) (i : Int) : 0 ≤ bt s i ∧ bt s i < 256 := by
  rw [bt_getD, List.getD_eq_getElem?_getD]
  rcases h : (bytesOf s)[i.toNat]? with _ | x
  · simp
  · exact bytesOf_range (List.mem_of_getElem? h)
theorem emptyB {s : ByteArray} (h : s.size = 0) : s = (⟨#[]⟩ : ByteArray) := by
  refine bytesOf_inj ?_
  rw [bytesOf_empty]
  exact List.eq_nil_of_length_eq_zero (by rw [← size_eq]; exact h)
/-! ### the frames of a text, one after the other -/
def feedF : Nat → ByteArray → ByteArray × Bool × List ByteArray
  | 0, _ => ((⟨#[]⟩ : ByteArray), false, [])
  | d + 1, r =>
    if r.size = 0 then ((⟨#[]⟩ : ByteArray), false, [])
    else if bt r 0 > 60 then ((⟨#[]⟩ : ByteArray), true, [])
    else if (r.size : Int) < 3 + bt r 0 then (r, false, [])
    else if frameT (r.extract 3 (3 + (bt r 0).toNat)) = r.extract 0 (3 + (bt r 0).toNat) then
      ((feedF d (r.extract (3 + (bt r 0).toNat) r.size)).1, (feedF d (r.extract (3 + (bt r 0).toNat) r.size)).2.1, r.extract 3 (3 + (bt r 0).toNat) :: (feedF d (r.extract (3 + (bt r 0).toNat) r.size)).2.2)
    else ((⟨#[]⟩ : ByteArray), true, [])
theorem feedF_len (d : Nat) : ∀ r : ByteArray, r.size ≤ d → (feedF d r).2.2.length ≤ r.size := by
  induction d with
  | zero => intro r _; simp [feedF]
  | succ d ih =>
    intro r hr
    unfold feedF
    split
    · simp
    · split
      · simp
      · split
        · simp
        · split
          · have h1 := bt_bd r 0
            have h2 := bext_size r (3 + (bt r 0).toNat) r.size (by omega)
            have := ih (r.extract (3 + (bt r 0).toNat) r.size) (by omega)
            simp only [List.length_cons]
            omega
          · simp
theorem half_frame (r : ByteArray) (n : Nat) (hn : bt r 0 = n) (hr : 3 + n ≤ r.size) : ((sumT (r.extract 3 (3 + n))).extract 2 (sumT (r.extract 3 (3 + n))).size).toList = (r.extract 1 3).toList ↔ frameT (r.extract 3 (3 + n)) = r.extract 0 (3 + n) := by
  rw [toList_iff]
  have hs := size_eq r
  have hz : (r.extract 3 (3 + n)).size = n := by rw [bext_size _ _ _ (by omega)]; omega
  have hx : bytesOf (r.extract 1 3) = ((bytesOf r).drop 1).take 2 := by rw [bytesOf_extract]
  have hy : bytesOf (r.extract 0 (3 + n)) = (bytesOf r).take (3 + n) := by rw [bytesOf_extract]; simp
  have hw : bytesOf (r.extract 3 (3 + n)) = ((bytesOf r).drop 3).take n := by rw [bytesOf_extract]; congr 1; omega
  have hf : bytesOf (frameT (r.extract 3 (3 + n))) = (n : Int) :: (halfL (r.extract 3 (3 + n)) ++ ((bytesOf r).drop 3).take n) := by
    unfold frameT
    rw [bytesOf_app, bytesOf_str, hz, hw]
    · rfl
    · intro x hx
      simp only [halfL, List.mem_cons, List.not_mem_nil, or_false] at hx
      have := bt_bd r 0
      rcases hx with rfl | rfl | rfl <;> omega
  have hg := half_bytes (r.extract 3 (3 + n))
  rw [bt_getD] at hn
  constructor
  · intro h
    have h1 : halfL (r.extract 3 (3 + n)) = ((bytesOf r).drop 1).take 2 := by rw [← hg, h, hx]
    refine bytesOf_inj ?_
    rw [hf, h1, hy]
    generalize bytesOf r = L at *
    match L, hs, hn with
    | [], hs, _ => simp only [List.length_nil] at hs; omega
    | [_], hs, _ => simp only [List.length_cons, List.length_nil] at hs; omega
    | [_, _], hs, _ => simp only [List.length_cons, List.length_nil] at hs; omega
    | a :: b :: c :: L, hs, hn =>
      simp at hn
      rw [show 3 + n = n + 1 + 1 + 1 by omega]
      simp [hn]
  · intro h
    have h1 := congrArg bytesOf h
    rw [hf, hy] at h1
    refine bytesOf_inj ?_
    rw [hg, hx]
    generalize bytesOf r = L at *
    match L, hs, hn with
    | [], hs, _ => simp only [List.length_nil] at hs; omega
    | [_], hs, _ => simp only [List.length_cons, List.length_nil] at hs; omega
    | [_, _], hs, _ => simp only [List.length_cons, List.length_nil] at hs; omega
    | a :: b :: c :: L, hs, hn =>
      have e3 : List.take (3 + n) (a :: b :: c :: L) = a :: b :: c :: L.take n := by rw [show 3 + n = n + 1 + 1 + 1 by omega]; rfl
      rw [e3] at h1
      unfold halfL at h1 ⊢
      simp only [List.take_succ_cons, List.cons_append, List.nil_append, List.cons.injEq] at h1
      rw [h1.2.1, h1.2.2.1]
      rfl
theorem toList_nil : (⟨#[]⟩ : ByteArray).toList = ([] : List UInt8) := by rw [Lib.toList_data]
def feedTop (h : ByteArray) (c : Bool) (a : ByteArray) : ByteArray × Bool × List ByteArray :=
  if c = true ∨ h.size + a.size > 20000 then (h, c, []) else feedF (h.size + a.size) (h ++ a)
theorem feedTop_len (h : ByteArray) (c : Bool) (a : ByteArray) : (feedTop h c a).2.2.length ≤ 20000 := by
  unfold feedTop
  split
  · simp
  · have := feedF_len (h.size + a.size) (h ++ a) (by rw [size_app]; omega)
    rw [size_app] at this
    omega

theorem implFeed_l0 (d : Nat) : ∀ (r : ByteArray) (acc : List ByteArray), r.size ≤ d → r.size ≤ 20000 → acc.length + r.size ≤ 40000 → Gets (fun k => impl_FeedReader.l0 k r acc) (· = ((feedF d r).1, (feedF d r).2.1, acc ++ (feedF d r).2.2)) := by
  induction d with
  | zero =>
    intro r acc hd _ _
    refine Gets.step (fun k => impl_FeedReader.l0.eq_2 ..) (Gets.pos (by rw [emptyB (s := r) (by omega)]; exact toList_nil) (Gets.ret ?_))
    rw [emptyB (s := r) (by omega)]; simp [feedF]
  | succ d ih =>
    intro r acc hd h2 h3
    refine Gets.step (fun k => impl_FeedReader.l0.eq_2 ..) ?_
    unfold feedF
    by_cases h0 : r.size = 0
    · refine Gets.pos (by rw [emptyB h0]; exact toList_nil) (Gets.ret ?_)
      rw [if_pos h0, emptyB h0]; simp
    · have hne : ¬ r.toList = ([] : List UInt8) := by
        intro h
        have := (toList_iff r (⟨#[]⟩ : ByteArray)).1 (by rw [h]; exact toList_nil.symm)
        exact h0 (by rw [this]; rfl)
      rw [if_neg h0]
      have hb := bt_bd r 0
      refine Gets.neg hne (Gets.pos (by omega) ?_)
      rw [wrapId (x := bt r 0) (by omega) (by omega), wrapId (by omega) (by omega)]
      by_cases h5 : bt r 0 > 60
      · refine Gets.pos h5 (Gets.ret ?_)
        rw [if_pos h5]; simp
      · rw [if_neg h5]
        refine Gets.neg h5 ?_
        by_cases h6 : (r.size : Int) < 3 + bt r 0
        · refine Gets.pos h6 (Gets.ret ?_)
          rw [if_pos h6]; simp
        · rw [if_neg h6]
          obtain ⟨n, hn⟩ : ∃ n : Nat, bt r 0 = n := ⟨(bt r 0).toNat, by omega⟩
          have e1 : (3 + bt r 0).toNat = 3 + n := by omega
          have e2 : (bt r 0).toNat = n := by omega
          refine Gets.neg h6 (Gets.pos (by omega) (Gets.pos (by omega) ?_))
          rw [e1, e2]
          have hz : (r.extract 3 (3 + n)).size = n := by rw [bext_size _ _ _ (by omega)]; omega
          refine Gets.bindE (implHalf _ (by omega)).ev (Gets.pos (by decide) (Gets.pos (by omega) ?_))
          have hh := half_frame r n hn (by omega)
          by_cases h7 : frameT (r.extract 3 (3 + n)) = r.extract 0 (3 + n)
          · refine Gets.pos (hh.2 h7) (Gets.pos (by omega) (Gets.pos (by omega) ?_))
            rw [if_pos h7]
            have hw := bext_size r (3 + n) r.size (by omega)
            refine (ih (r.extract (3 + n) r.size) _ (by omega) (by omega) (by simp; omega)).mono (fun x hx => ?_)
            rw [hx]; simp
          · refine Gets.neg (fun h => h7 (hh.1 h)) (Gets.ret ?_)
            rw [if_neg h7]; simp
theorem implFeed (h : ByteArray) (c : Bool) (a : ByteArray) (hh : h.size ≤ 1048576) (ha : a.size ≤ 1048576) : Gets (fun k => impl_FeedReader.f k h c a) (· = feedTop h c a) := by
  unfold impl_FeedReader.f feedTop
  refine Gets.ite (fun hc => ?_) (fun hc => ?_)
  · rw [if_pos (Or.inl hc)]
    exact Gets.step (fun k => impl_FeedReader.j0.eq_2 ..) (Gets.pos rfl (Gets.ret rfl))
  · rw [wrapId (by omega) (by omega)]
    refine Gets.step (fun k => impl_FeedReader.j0.eq_2 ..) (Gets.ite (fun hd => ?_) (fun hd => ?_))
    · have := of_decide_eq_true hd
      rw [if_pos (Or.inr (by omega))]
      exact Gets.ret rfl
    · have hd : ¬ (h.size : Int) + a.size > 20000 := fun h1 => hd (decide_eq_true h1)
      rw [if_neg (by rintro (h1 | h1); exact hc h1; omega)]
      refine Gets.pos (by omega) ?_
      exact (implFeed_l0 (h.size + a.size) (h ++ a) [] (by rw [size_app]; omega) (by rw [size_app]; omega) (by rw [size_app]; simp; omega)).mono (fun x hx => by rw [hx]; simp)

theorem specSum_l1 (s : ByteArray) (i : Int) (Q : Int → Prop) (d : Nat) : ∀ x j : Int, 0 ≤ x → x < 4294967296 → 0 ≤ j → 8 - j = d → Gets (fun k => spec_SumMore.l0 k (hfs d x) s (wrap64 (i + 1))) Q → Gets (fun k => spec_SumMore.l1 k x s i j) Q := by
  induction d with
  | zero =>
    intro x j h0 h1 h2 hd h
    refine Gets.step (fun k => spec_SumMore.l1.eq_2 ..) ?_
    exact Gets.neg (by omega) h
  | succ d ih =>
    intro x j h0 h1 h2 hd h
    refine Gets.step (fun k => spec_SumMore.l1.eq_2 ..) ?_
    refine Gets.pos (by omega) ?_
    rw [tmod_nn h0, tdiv_nn h0, show x / 2 % 4294967296 = x / 2 by omega, wrapId (by omega) (by omega)]
    have hb := hf_bd h0 h1
    have hh : hfs (d + 1) x = hfs d (hf x) := rfl
    rw [hh] at h
    refine Gets.ite (fun hc => ?_) (fun hc => ?_)
    · have e : hf x = Go.bits .xor .u32 (x / 2) 3558460437 := by unfold hf; rw [if_pos hc]
      rw [e] at h hb
      exact ih _ _ hb.1 hb.2 (by omega) (by omega) h
    · have e : hf x = x / 2 := by unfold hf; rw [if_neg hc]
      rw [e] at h hb
      exact ih _ _ hb.1 hb.2 (by omega) (by omega) h
theorem specSum_l0 (s : ByteArray) (hs : s.size ≤ 140737488351232) (d : Nat) : ∀ x i : Int, 0 ≤ x → x < 4294967296 → 0 ≤ i → (s.size : Int) - i = d → Gets (fun k => spec_SumMore.l0 k x s i) (· = crcL x ((bytesOf s).drop i.toNat)) := by
  induction d with
  | zero =>
    intro x i h0 h1 h2 hd
    refine Gets.step (fun k => spec_SumMore.l0.eq_2 ..) ?_
    refine Gets.neg (by omega) (Gets.ret ?_)
    rw [List.drop_of_length_le (by rw [bytesOf_length]; omega)]
    rfl
  | succ d ih =>
    intro x i h0 h1 h2 hd
    refine Gets.step (fun k => spec_SumMore.l0.eq_2 ..) ?_
    refine Gets.pos (by omega) (Gets.pos h2 ?_)
    have hr := bt_range s i
    rw [show bt s i % 4294967296 = bt s i by omega]
    refine specSum_l1 s i _ 8 _ 0 (xor_bd _ _).1 (xor_bd _ _).2 (by omega) (by omega) ?_
    rw [wrapId (by omega) (by omega), bytes_drop s i h2 (by omega)]
    have hb := hfs_bd 8 (xor_bd x (bt s i)).1 (xor_bd x (bt s i)).2
    exact ih _ (i + 1) hb.1 hb.2 (by omega) (by omega)
theorem specSumMore (x : Int) (s : ByteArray) (h0 : 0 ≤ x) (h1 : x < 4294967296) (hs : s.size ≤ 140737488351232) : Gets (fun k => spec_SumMore.f k x s) (· = crcL x (bytesOf s)) := by
  unfold spec_SumMore.f
  exact specSum_l0 s hs s.size x 0 h0 h1 (by omega) (by omega)

theorem specSumOf (s : ByteArray) (hs : s.size ≤ 140737488351232) : Gets (fun k => spec_SumOf.f k s) (· = crcL 4294967295 (bytesOf s)) := by
  unfold spec_SumOf.f
  exact Gets.bind (specSumMore _ s (by omega) (by omega) hs) (fun a ha => Gets.ret ha)

theorem specFrame (s : ByteArray) (hs : s.size ≤ 140737488351232) : Gets (fun k => spec_FrameOf.f k s) (fun r => (s.size ≤ 60 → r = (frameT s, true)) ∧ (60 < s.size → r = ((⟨#[]⟩ : ByteArray), false))) := by
  unfold spec_FrameOf.f
  refine Gets.ite (fun h => Gets.ret ⟨fun h1 => by omega, fun _ => rfl⟩) (fun h => ?_)
  refine Gets.bindE (specSumOf s hs).ev ?_
  have hb := crcL_bd (bytesOf s) (x := 4294967295) (by omega) (by omega)
  have e : [(s.size : Int) % 256, (Int.tdiv (Int.tmod (crcL 4294967295 (bytesOf s)) 65536) 256) % 4294967296 % 256, (Int.tmod (Int.tmod (crcL 4294967295 (bytesOf s)) 65536) 256) % 256] = (s.size : Int) :: halfL s := by
    rw [tmod_nn hb.1, tdiv_nn (by omega), tmod_nn (by omega)]
    simp only [halfL, List.cons.injEq, and_true]
    omega
  rw [e]
  simp only [Option.bind_some]
  exact Gets.pos (by rw [strOfNums_size]; simp [halfL]; omega) (Gets.ret ⟨fun _ => rfl, fun h2 => by omega⟩)

theorem specFeed_l0 (d : Nat) (s : ByteArray) (hs : s.size ≤ 20000) : ∀ (i : Nat) (acc : List ByteArray), i ≤ s.size → s.size - i ≤ d → acc.length + (s.size - i) ≤ 40000 → Gets (fun k => spec_FeedReader.l0 k acc s (i : Int)) (· = ((feedF d (s.extract i s.size)).1, (feedF d (s.extract i s.size)).2.1, acc ++ (feedF d (s.extract i s.size)).2.2)) := by
  induction d with
  | zero =>
    intro i acc hi hd _
    refine Gets.step (fun k => spec_FeedReader.l0.eq_2 ..) (Gets.neg (by omega) (Gets.ret ?_))
    simp [feedF]
  | succ d ih =>
    intro i acc hi hd h3
    refine Gets.step (fun k => spec_FeedReader.l0.eq_2 ..) ?_
    unfold feedF
    have hz := bext_size s i s.size (by omega)
    by_cases h0 : i = s.size
    · refine Gets.neg (by omega) (Gets.ret ?_)
      rw [if_pos (show (s.extract i s.size).size = 0 by omega)]; simp
    · rw [if_neg (show ¬ (s.extract i s.size).size = 0 by omega)]
      have hb := bt_bd s i
      have he := bt_ext s i (by omega)
      rw [he, hz]
      refine Gets.pos (by omega) (Gets.pos (by omega) ?_)
      rw [wrapId (x := bt s i) (by omega) (by omega)]
      by_cases h5 : bt s i > 60
      · refine Gets.pos h5 (Gets.ret ?_)
        rw [if_pos h5]; simp
      · rw [if_neg h5]
        refine Gets.neg h5 ?_
        rw [wrapId (x := (s.size : Int) - i) (by omega) (by omega), wrapId (x := bt s i + 3) (by omega) (by omega)]
        by_cases h6 : (s.size : Int) - i < bt s i + 3
        · refine Gets.pos h6 (Gets.pos (by omega) (Gets.ret ?_))
          rw [if_pos (show ((s.size - i : Nat) : Int) < 3 + bt s i by omega)]; simp
        · rw [if_neg (show ¬ ((s.size - i : Nat) : Int) < 3 + bt s i by omega)]
          obtain ⟨n, hn⟩ : ∃ n : Nat, bt s i = n := ⟨(bt s i).toNat, by omega⟩
          rw [wrapId (x := (i : Int) + 3) (by omega) (by omega), wrapId (x := (i : Int) + 3 + bt s i) (by omega) (by omega), wrapId (x := (i : Int) + bt s i) (by omega) (by omega), wrapId (by omega) (by omega)]
          have e1 : ((i : Int) + 3).toNat = i + 3 := by omega
          have e2 : (bt s i).toNat = n := by omega
          have e3 : ((i : Int) + 3 + bt s i).toNat = i + (3 + n) := by omega
          have e4 : (i : Int) + bt s i + 3 = ((i + (3 + n) : Nat) : Int) := by omega
          refine Gets.neg h6 (Gets.pos (by omega) (Gets.pos (by omega) (Gets.pos (by omega) ?_)))
          rw [e1, e2, e3, e4]
          simp only [Int.toNat_natCast]
          have e0 := bext2 s i 0 (3 + n) (by omega)
          rw [Nat.add_zero] at e0
          rw [bext2 s i 3 (3 + n) (by omega), e0]
          have hw : (s.extract (i + 3) (i + (3 + n))).size = n := by rw [bext_size _ _ _ (by omega)]; omega
          refine Gets.bind (specFrame _ (by omega)) (fun t ht => ?_)
          rw [ht.1 (by omega)]
          refine Gets.pos (by omega) ?_
          by_cases h7 : frameT (s.extract (i + 3) (i + (3 + n))) = s.extract i (i + (3 + n))
          · refine Gets.pos (by rw [h7]) (Gets.pos (by omega) ?_)
            rw [if_pos h7]
            have e5 : (s.extract i s.size).extract (3 + n) (s.size - i) = s.extract (i + (3 + n)) s.size := by
              rw [bext2 s i (3 + n) (s.size - i) (by omega), show i + (s.size - i) = s.size by omega]
            rw [e5]
            refine (ih (i + (3 + n)) _ (by omega) (by omega) (by simp; omega)).mono (fun x hx => ?_)
            rw [hx]; simp
          · refine Gets.neg (fun h => h7 ((toList_iff _ _).1 h)) (Gets.ret ?_)
            rw [if_neg h7]; simp
theorem specFeed_j0 (h : ByteArray) (c : Bool) (a : ByteArray) (hc : ¬ c = true) (b : Bool) (hb : b = true ↔ h.size + a.size > 20000) : Gets (fun k => spec_FeedReader.j0 k a [] b h c) (· = feedTop h c a) := by
  unfold feedTop
  refine Gets.step (fun k => spec_FeedReader.j0.eq_2 ..) (Gets.ite (fun hd => ?_) (fun hd => ?_))
  · rw [if_pos (Or.inr (hb.1 hd))]
    exact Gets.ret rfl
  · have h9 : ¬ h.size + a.size > 20000 := fun h1 => hd (hb.2 h1)
    rw [if_neg (by rintro (h1 | h1); exact hc h1; omega)]
    refine Gets.pos (by omega) ?_
    have e := bext_full (h ++ a)
    have hz : (h ++ a).size = h.size + a.size := size_app h a
    refine (specFeed_l0 (h.size + a.size) (h ++ a) (by omega) 0 [] (by omega) (by omega) (by simp; omega)).mono (fun x hx => ?_)
    rw [hx, e]; simp
theorem specFeed (h : ByteArray) (c : Bool) (a : ByteArray) (hh : h.size ≤ 1048576) (ha : a.size ≤ 1048576) : Gets (fun k => spec_FeedReader.f k h c a) (· = feedTop h c a) := by
  unfold spec_FeedReader.f
  simp only [Option.bind_some]
  refine Gets.ite (fun hc => ?_) (fun hc => ?_)
  · unfold feedTop
    rw [if_pos (Or.inl hc)]
    exact Gets.step (fun k => spec_FeedReader.j0.eq_2 ..) (Gets.pos rfl (Gets.ret rfl))
  · refine Gets.ite (fun h1 => specFeed_j0 h c a hc true (by simp; omega)) (fun h1 => Gets.ite (fun h2 => specFeed_j0 h c a hc true (by simp; omega)) (fun h2 => ?_))
    rw [wrapId (by omega) (by omega)]
    exact specFeed_j0 h c a hc _ (by rw [decide_eq_true_iff]; omega)

theorem octets_l0 (l : List Int) (hl : l.length ≤ 2000000) (d : Nat) : ∀ (i : Nat) (acc : List Int), l.length - i = d → i ≤ l.length → acc.length + d ≤ 2000000 → Gets (fun k => impl_octets.l0 k acc l (l.length : Int) (i : Int)) (· = strOfNums (acc ++ (l.drop i).map (· % 256))) := by
  induction d with
  | zero =>
    intro i acc hd hi ha
    refine Gets.step (fun k => impl_octets.l0.eq_2 ..) (Gets.neg (by omega) (Gets.ret ?_))
    rw [List.drop_of_length_le (by omega)]
    simp
  | succ d ih =>
    intro i acc hd hi ha
    refine Gets.step (fun k => impl_octets.l0.eq_2 ..) (Gets.pos (by omega) (Gets.pos (by omega) (Gets.pos (by omega) (Gets.pos (by omega) ?_))))
    rw [rd_get (by omega), wrapId (by omega) (by omega), drop_at l i (by omega)]
    simp only [Int.toNat_natCast]
    rw [show ((i : Int) + 1) = ((i + 1 : Nat) : Int) by omega]
    refine (ih (i + 1) (acc ++ [l[i] % 256]) (by omega) (by omega) (by simp; omega)).mono (fun r hr => ?_)
    rw [hr]; simp only [List.map_cons, List.append_assoc, List.singleton_append]
theorem octets (l : List Int) (hl : l.length ≤ 2000000) : Gets (fun k => impl_octets.f k l) (· = strOfNums (l.map (· % 256))) := by
  unfold impl_octets.f
  have h := octets_l0 l hl l.length 0 [] (by omega) (by omega) (by simp; omega)
  simpa using h

theorem implFrame (s : ByteArray) (hs : s.size ≤ 140737488351232) : Gets (fun k => impl_FrameOf.f k s) (fun r => (s.size ≤ 60 → r = (frameT s, true)) ∧ (60 < s.size → r = ((⟨#[]⟩ : ByteArray), false))) := by
  unfold impl_FrameOf.f
  refine Gets.ite (fun h => Gets.ret ⟨fun h1 => by omega, fun _ => rfl⟩) (fun h => ?_)
  refine Gets.bindE (octets _ (by simp)).ev (Gets.bindE (implHalf s hs).ev ?_)
  rw [half_str]
  have e : strOfNums (List.map (fun x => x % 256) [(s.size : Int)]) ++ strOfNums (halfL s) = strOfNums ((s.size : Int) :: halfL s) := by
    rw [str_app]; simp only [List.map_cons, List.map_nil, List.singleton_append]; rw [show (s.size : Int) % 256 = s.size by omega]
  rw [e]
  refine Gets.pos ?_ (Gets.pos ?_ (Gets.ret ⟨fun _ => rfl, fun h2 => by omega⟩))
  · simp only [strOfNums_size]; simp [halfL]
  · simp only [strOfNums_size]; simp [halfL]; omega

theorem asc_ext : ∀ a b : List Int, a.Pairwise (· < ·) → b.Pairwise (· < ·) → (∀ x, x ∈ a ↔ x ∈ b) → a = b := by
  intro a
  induction a with
  | nil =>
    intro b _ _ h
    cases b with
    | nil => rfl
    | cons y b => exact absurd ((h y).2 (List.mem_cons_self ..)) (by simp)
  | cons x a ih =>
    intro b ha hb h
    cases b with
    | nil => exact absurd ((h x).1 (List.mem_cons_self ..)) (by simp)
    | cons y b =>
      rw [List.pairwise_cons] at ha hb
      have e : x = y := by
        rcases List.mem_cons.1 ((h x).1 (List.mem_cons_self ..)) with h1 | h1
        · exact h1
        · rcases List.mem_cons.1 ((h y).2 (List.mem_cons_self ..)) with h2 | h2
          · exact h2.symm
          · have := hb.1 x h1; have := ha.1 y h2; omega
      subst e
      rw [ih b ha.2 hb.2 (fun z => ⟨fun hz => ?_, fun hz => ?_⟩)]
      · rcases List.mem_cons.1 ((h z).1 (List.mem_cons_of_mem _ hz)) with h1 | h1
        · have := ha.1 z hz; omega
        · exact h1
      · rcases List.mem_cons.1 ((h z).2 (List.mem_cons_of_mem _ hz)) with h1 | h1
        · have := hb.1 z hz; omega
        · exact h1
/-! ### what is sorted, each once -/
theorem compactUp (z : List Int) (hz : z.Pairwise (· ≤ ·)) : ∀ m, m ≤ z.length → (Lib.compactUpTo z.toArray m).Pairwise (· < ·) ∧ ∀ x, x ∈ Lib.compactUpTo z.toArray m ↔ x ∈ z.take m := by
  intro m
  induction m with
  | zero => intro _; simp [Lib.compactUpTo]
  | succ m ih =>
    intro hm
    obtain ⟨h1, h2⟩ := ih (by omega)
    have hg : ∀ j, j < z.length → z.toArray[j]! = z.getD j 0 := by
      intro j hj
      rw [getElem!_pos _ j (by simpa using hj), List.getD_eq_getElem?_getD, List.getElem?_eq_getElem hj]; simp
    have hgm : z.getD m 0 = z[m] := by rw [List.getD_eq_getElem?_getD, List.getElem?_eq_getElem (by omega)]; rfl
    rw [Lib.compactUpTo_succ, List.take_succ_eq_append_getElem (by omega)]
    have hlast : 0 < m → z.getD (m - 1) 0 ∈ z.take m := by
      intro h0
      rw [List.getD_eq_getElem?_getD, List.getElem?_eq_getElem (show m - 1 < z.length by omega)]
      simp only [Option.getD_some]
      rw [List.mem_take_iff_getElem]
      exact ⟨m - 1, by omega, rfl⟩
    have hle : ∀ x ∈ z.take m, 0 < m → x ≤ z.getD (m - 1) 0 := by
      intro x hx h0
      rw [List.mem_take_iff_getElem] at hx
      obtain ⟨j, hj, rfl⟩ := hx
      rw [List.getD_eq_getElem?_getD, List.getElem?_eq_getElem (show m - 1 < z.length by omega)]
      simp only [Option.getD_some]
      rcases Nat.lt_or_ge j (m - 1) with hlt | hge
      · exact List.pairwise_iff_getElem.1 hz j (m - 1) _ _ hlt
      · have : j = m - 1 := by omega
        subst this; omega
    rcases Nat.eq_zero_or_pos m with h0 | h0
    · subst h0
      rw [Lib.keeps_lt_one _ 0 (by omega), hg 0 (by omega), hgm]
      simp [Lib.compactUpTo]
    · have hadj : z.getD (m - 1) 0 ≤ z.getD m 0 := by
        rw [hgm, List.getD_eq_getElem?_getD, List.getElem?_eq_getElem (show m - 1 < z.length by omega)]
        exact List.pairwise_iff_getElem.1 hz (m - 1) m _ _ (by omega)
      by_cases hk : z.getD m 0 = z.getD (m - 1) 0
      · rw [Lib.keeps_neg h0 (by rw [hg m (by omega), hg (m - 1) (by omega), hk])]
        simp only [Bool.false_eq_true, if_false, List.append_nil]
        refine ⟨h1, fun x => ?_⟩
        rw [h2, List.mem_append, List.mem_singleton]
        refine ⟨.inl, fun h => h.elim id (fun h => ?_)⟩
        rw [h, ← hgm, hk]
        exact hlast h0
      · rw [Lib.keeps_pos (by rw [hg m (by omega), hg (m - 1) (by omega)]; exact hk), hg m (by omega)]
        simp only [if_true]
        refine ⟨?_, fun x => ?_⟩
        · rw [List.pairwise_append]
          refine ⟨h1, List.pairwise_singleton _ _, fun a ha b hb => ?_⟩
          have e := List.mem_singleton.1 hb
          have := hle a ((h2 a).1 ha) h0
          omega
        · rw [List.mem_append, List.mem_append, h2, List.mem_singleton, List.mem_singleton, hgm]
def uniqS (l : List Int) : List Int := Lib.compact (l.mergeSort fun x y => decide (x ≤ y))
theorem sorted_le (l : List Int) : (l.mergeSort fun x y => decide (x ≤ y)).Pairwise (· ≤ ·) := by
  have h := List.pairwise_mergeSort (le := fun x y : Int => decide (x ≤ y)) (fun a b c h1 h2 => by simp at *; omega) (fun a b => by simp; omega) l
  exact h.imp (fun h => by simpa using h)
theorem uniqS_ok (l : List Int) : (uniqS l).Pairwise (· < ·) ∧ ∀ x, x ∈ uniqS l ↔ x ∈ l := by
  have h := compactUp _ (sorted_le l) _ (Nat.le_refl _)
  refine ⟨h.1, fun x => ?_⟩
  unfold uniqS Lib.compact
  rw [h.2 x, List.take_length, List.mem_mergeSort]
/-! ### the pieces between places -/
def pieces (s : ByteArray) : Int → List Int → List ByteArray
  | b, [] => [s.extract b.toNat s.size]
  | b, k :: t => s.extract b.toNat k.toNat :: pieces s k t
theorem pieces_len (s : ByteArray) (l : List Int) : ∀ b, (pieces s b l).length = l.length + 1 := by
  induction l with
  | nil => intro b; rfl
  | cons k l ih => intro b; simp [pieces, ih]
def resC (m p : Int) : Int := if Int.tmod p m < 0 then Int.tmod p m + m else Int.tmod p m
theorem tmod_bd (p m : Int) (hm : 0 < m) : -m < Int.tmod p m ∧ Int.tmod p m < m := by
  refine ⟨?_, Int.tmod_lt_of_pos p hm⟩
  have h := Int.tmod_lt_of_pos (-p) hm
  rw [Int.neg_tmod] at h
  omega
theorem resC_bd (p m : Int) (hm : 0 < m) : 0 ≤ resC m p ∧ resC m p < m := by
  have := tmod_bd p m hm
  unfold resC
  split <;> omega
def cutT (s : ByteArray) (l : List Int) : List ByteArray := pieces s 0 (uniqS (l.map (resC ((s.size : Int) + 1))))
def posB : Int → List Bool → List Int
  | _, [] => []
  | i, true :: t => i :: posB (i + 1) t
  | i, false :: t => posB (i + 1) t
theorem posB_mem (t : List Bool) : ∀ i x, x ∈ posB i t ↔ ∃ j : Nat, t[j]? = some true ∧ x = i + j := by
  induction t with
  | nil => intro i x; simp [posB]
  | cons b t ih =>
    intro i x
    have hs : (∃ j : Nat, (b :: t)[j]? = some true ∧ x = i + j) ↔ (b = true ∧ x = i) ∨ ∃ j : Nat, t[j]? = some true ∧ x = i + 1 + j := by
      constructor
      · rintro ⟨j, h1, h2⟩
        cases j with
        | zero => exact .inl ⟨by simpa using h1, by omega⟩
        | succ j => exact .inr ⟨j, by simpa using h1, by omega⟩
      · rintro (⟨h1, h2⟩ | ⟨j, h1, h2⟩)
        · exact ⟨0, by simp [h1], by omega⟩
        · exact ⟨j + 1, by simpa using h1, by omega⟩
    rw [hs]
    cases b with
    | true => simp [posB, ih]
    | false => simp [posB, ih]
theorem posB_asc (t : List Bool) : ∀ i, (posB i t).Pairwise (· < ·) := by
  induction t with
  | nil => intro i; simp [posB]
  | cons b t ih =>
    intro i
    cases b with
    | true =>
      rw [posB, List.pairwise_cons]
      refine ⟨fun x hx => ?_, ih _⟩
      obtain ⟨j, _, h⟩ := (posB_mem t (i + 1) x).1 hx
      omega
    | false => rw [posB]; exact ih _

def joinB (l : List ByteArray) : List Int := (l.map bytesOf).flatten
theorem joinB_app (a b : List ByteArray) : joinB (a ++ b) = joinB a ++ joinB b := by unfold joinB; rw [List.map_append, List.flatten_append]
theorem joinB_len (s : ByteArray) (l : List ByteArray) (hs : s ∈ l) : s.size ≤ (joinB l).length := by
  rw [size_eq]
  induction l with
  | nil => simp at hs
  | cons t l ih =>
    simp only [joinB, List.map_cons, List.flatten_cons, List.length_append]
    rcases List.mem_cons.1 hs with rfl | h
    · omega
    · have := ih h; simp only [joinB] at this; omega
theorem pieces_join (s : ByteArray) (l : List Int) : ∀ b : Int, 0 ≤ b → b ≤ s.size → (∀ x ∈ l, b ≤ x ∧ x ≤ s.size) → l.Pairwise (· < ·) → joinB (pieces s b l) = (bytesOf s).drop b.toNat := by
  have hz := size_eq s
  induction l with
  | nil =>
    intro b h0 h1 _ _
    simp only [pieces, joinB, List.map_cons, List.map_nil, List.flatten_cons, List.flatten_nil, List.append_nil, bytesOf_extract]
    rw [List.take_of_length_le (by simp; omega)]
  | cons k l ih =>
    intro b h0 h1 hb hp
    rw [List.pairwise_cons] at hp
    have hk := hb k (List.mem_cons_self ..)
    have h := ih k (by omega) hk.2 (fun x hx => ⟨by have := hp.1 x hx; omega, (hb x (List.mem_cons_of_mem _ hx)).2⟩) hp.2
    have e : joinB (pieces s b (k :: l)) = bytesOf (s.extract b.toNat k.toNat) ++ joinB (pieces s k l) := rfl
    rw [e, h, bytesOf_extract]
    have e2 : (bytesOf s).drop k.toNat = ((bytesOf s).drop b.toNat).drop (k.toNat - b.toNat) := by rw [List.drop_drop]; congr 1; omega
    rw [e2, List.take_append_drop]
theorem cutT_join (s : ByteArray) (l : List Int) : joinB (cutT s l) = bytesOf s := by
  unfold cutT
  obtain ⟨h1, h2⟩ := uniqS_ok (l.map (resC ((s.size : Int) + 1)))
  rw [pieces_join s _ 0 (by omega) (by omega) (fun x hx => ?_) h1]
  · simp
  · obtain ⟨p, _, rfl⟩ := List.mem_map.1 ((h2 x).1 hx)
    have := resC_bd p ((s.size : Int) + 1) (by omega)
    omega
theorem cutT_len (s : ByteArray) (l : List Int) : (cutT s l).length ≤ l.length + 1 ∧ 1 ≤ (cutT s l).length := by
  unfold cutT
  rw [pieces_len]
  have h3 := Lib.compact_length_le ((l.map (resC ((s.size : Int) + 1))).mergeSort fun x y => decide (x ≤ y))
  rw [List.length_mergeSort, List.length_map] at h3
  unfold uniqS; omega

theorem frame_bytes (t : ByteArray) (ht : t.size ≤ 60) : bytesOf (frameT t) = (t.size : Int) :: (halfL t ++ bytesOf t) := by
  unfold frameT
  rw [bytesOf_app, bytesOf_str]
  · rfl
  · intro x hx
    simp only [halfL, List.mem_cons, List.not_mem_nil, or_false] at hx
    rcases hx with rfl | rfl | rfl <;> omega
theorem frame_len (t : ByteArray) (ht : t.size ≤ 60) : (bytesOf (frameT t)).length = 3 + t.size := by
  have := size_eq t
  rw [frame_bytes t ht]; simp [halfL]; omega
/-- What is left of a text when no whole frame begins it. -/
def Inc (r : ByteArray) : Prop := r.size = 0 ∨ (r.size : Int) < 3 + bt r 0
theorem bt_head (B : ByteArray) (x : Int) (L X : List Int) (h : bytesOf B ++ X = x :: L) (hB : 0 < B.size) : bt B 0 = x := by
  rw [bt_getD]
  have hz := size_eq B
  cases hb : bytesOf B with
  | nil => rw [hb, List.length_nil] at hz; omega
  | cons a M => rw [hb] at h; simp at h; simp [h.1]
theorem feedS (d : Nat) : ∀ (B : ByteArray) (U : List ByteArray) (X : List Int), B.size ≤ d → (∀ t ∈ U, t.size ≤ 60) → bytesOf B ++ X = joinB (U.map frameT) → ∃ U', U = (feedF d B).2.2 ++ U' ∧ (feedF d B).2.1 = false ∧ bytesOf (feedF d B).1 ++ X = joinB (U'.map frameT) ∧ Inc (feedF d B).1 := by
  induction d with
  | zero =>
    intro B U X hd hU h
    rw [emptyB (s := B) (by omega)] at h
    exact ⟨U, rfl, rfl, h, .inl rfl⟩
  | succ d ih =>
    intro B U X hd hU h
    unfold feedF
    have hz := size_eq B
    by_cases h0 : B.size = 0
    · rw [if_pos h0]
      rw [emptyB h0] at h
      exact ⟨U, rfl, rfl, h, .inl rfl⟩
    · rw [if_neg h0]
      cases U with
      | nil =>
        have h1 := congrArg List.length h
        rw [List.length_append] at h1
        have h2 : (joinB (([] : List ByteArray).map frameT)).length = 0 := rfl
        omega
      | cons t U =>
        have ht := hU t (List.mem_cons_self ..)
        have hfb := frame_bytes t ht
        have hfl := frame_len t ht
        have hj : joinB ((t :: U).map frameT) = bytesOf (frameT t) ++ joinB (U.map frameT) := rfl
        rw [hj] at h
        have hb : bt B 0 = t.size := bt_head B _ _ X (by rw [h, hfb]; rfl) (by omega)
        rw [if_neg (by omega)]
        by_cases h2 : (B.size : Int) < 3 + bt B 0
        · rw [if_pos h2]
          exact ⟨t :: U, rfl, rfl, by rw [hj]; exact h, .inr h2⟩
        · rw [if_neg h2]
          have e1 : (bt B 0).toNat = t.size := by omega
          rw [e1]
          have h3 : (bytesOf B).take (3 + t.size) = bytesOf (frameT t) := by
            have h4 := congrArg (List.take (3 + t.size)) h
            rw [List.take_append_of_le_length (by omega), ← hfl, List.take_left] at h4
            rw [hfl] at h4
            exact h4
          have h5 : (bytesOf B).drop (3 + t.size) ++ X = joinB (U.map frameT) := by
            have h4 := congrArg (List.drop (3 + t.size)) h
            rw [List.drop_append_of_le_length (by omega), ← hfl, List.drop_left] at h4
            rw [hfl] at h4
            exact h4
          have f0 : B.extract 0 (3 + t.size) = frameT t := bytesOf_inj (by rw [bytesOf_extract]; simp only [List.drop_zero, Nat.sub_zero]; exact h3)
          have f1 : B.extract 3 (3 + t.size) = t := by
            refine bytesOf_inj ?_
            rw [bytesOf_extract]
            have h6 : ((bytesOf B).drop 3).take (3 + t.size - 3) = ((bytesOf B).take (3 + t.size)).drop 3 := by rw [List.drop_take]
            rw [h6, h3, hfb]
            simp [halfL]
          rw [f0, f1, if_pos rfl]
          have f2 : bytesOf (B.extract (3 + t.size) B.size) = (bytesOf B).drop (3 + t.size) := by
            rw [bytesOf_extract, List.take_of_length_le (by rw [List.length_drop]; omega)]
          have f3 := bext_size B (3 + t.size) B.size (by omega)
          obtain ⟨U', g1, g2, g3, g4⟩ := ih (B.extract (3 + t.size) B.size) U X (by omega) (fun u hu => hU u (List.mem_cons_of_mem _ hu)) (by rw [f2]; exact h5)
          refine ⟨U', ?_, g2, g3, g4⟩
          simp only [List.cons_append, List.cons.injEq, true_and]
          exact g1
theorem feed_end (r : ByteArray) (U : List ByteArray) (hU : ∀ t ∈ U, t.size ≤ 60) (h : bytesOf r = joinB (U.map frameT)) (hi : Inc r) : U = [] ∧ r = (⟨#[]⟩ : ByteArray) := by
  cases U with
  | nil => exact ⟨rfl, bytesOf_inj (by rw [h]; rfl)⟩
  | cons t U =>
    exfalso
    have ht := hU t (List.mem_cons_self ..)
    have hfb := frame_bytes t ht
    have hfl := frame_len t ht
    have hj : joinB ((t :: U).map frameT) = bytesOf (frameT t) ++ joinB (U.map frameT) := rfl
    have hz := size_eq r
    rw [hj] at h
    have hl := congrArg List.length h
    rw [List.length_append, hfl] at hl
    have hb : bt r 0 = t.size := bt_head r _ _ [] (by rw [List.append_nil, h, hfb]; rfl) (by omega)
    rcases hi with hi | hi <;> omega
theorem feedTop_join (r p : ByteArray) (U : List ByteArray) (X : List Int) (hs : r.size + p.size ≤ 20000) (hU : ∀ t ∈ U, t.size ≤ 60) (h : bytesOf r ++ (bytesOf p ++ X) = joinB (U.map frameT)) : ∃ U', U = (feedTop r false p).2.2 ++ U' ∧ (feedTop r false p).2.1 = false ∧ bytesOf (feedTop r false p).1 ++ X = joinB (U'.map frameT) ∧ Inc (feedTop r false p).1 := by
  unfold feedTop
  rw [if_neg (by simp; omega)]
  exact feedS _ (r ++ p) U X (by rw [size_app]; omega) hU (by rw [bytesOf_app, List.append_assoc]; exact h)

theorem xor32 (a b : Int) : Go.bits .xor .u32 a b = (((BitVec.ofInt 32 a ^^^ BitVec.ofInt 32 b).toNat : Nat) : Int) := by
  have h2 := (BitVec.ofInt 32 a ^^^ BitVec.ofInt 32 b).isLt
  unfold Go.bits
  simp only [u32_wrap]
  show (((BitVec.ofInt 32 a ^^^ BitVec.ofInt 32 b).toNat : Nat) : Int) % 4294967296 = _
  omega
theorem ofInt32_inj {a b : Int} (ha : 0 ≤ a ∧ a < 4294967296) (hb : 0 ≤ b ∧ b < 4294967296) (h : BitVec.ofInt 32 a = BitVec.ofInt 32 b) : a = b := by
  have h1 := congrArg BitVec.toNat h
  rw [BitVec.toNat_ofInt, BitVec.toNat_ofInt] at h1
  have h3 : ((2 ^ 32 : Nat) : Int) = 4294967296 := rfl
  rw [h3, Int.emod_eq_of_lt ha.1 ha.2, Int.emod_eq_of_lt hb.1 hb.2] at h1
  omega
theorem bv_xor_cancel {w : Nat} {x y c : BitVec w} (h : x ^^^ c = y ^^^ c) : x = y := by
  have h1 : (x ^^^ c) ^^^ c = (y ^^^ c) ^^^ c := by rw [h]
  simpa [BitVec.xor_assoc] using h1
theorem xor32_inj {a b c : Int} (ha : 0 ≤ a ∧ a < 4294967296) (hb : 0 ≤ b ∧ b < 4294967296) (h : Go.bits .xor .u32 a c = Go.bits .xor .u32 b c) : a = b := by
  rw [xor32, xor32] at h
  exact ofInt32_inj ha hb (bv_xor_cancel (c := BitVec.ofInt 32 c) (BitVec.eq_of_toNat_eq (by omega)))
theorem xor32_inj' {a b c : Int} (ha : 0 ≤ a ∧ a < 4294967296) (hb : 0 ≤ b ∧ b < 4294967296) (h : Go.bits .xor .u32 c a = Go.bits .xor .u32 c b) : a = b := by
  rw [xor32, xor32] at h
  have h1 : BitVec.ofInt 32 c ^^^ BitVec.ofInt 32 a = BitVec.ofInt 32 c ^^^ BitVec.ofInt 32 b := BitVec.eq_of_toNat_eq (by omega)
  rw [BitVec.xor_comm, BitVec.xor_comm (BitVec.ofInt 32 c)] at h1
  exact ofInt32_inj ha hb (bv_xor_cancel h1)
theorem xor_high {a : Int} (ha : 0 ≤ a ∧ a < 2147483648) : 2147483648 ≤ Go.bits .xor .u32 a 3558460437 := by
  rw [xor32]
  have h1 : (BitVec.ofInt 32 a ^^^ BitVec.ofInt 32 3558460437).msb = true := by
    rw [BitVec.msb_xor]
    have h2 : (BitVec.ofInt 32 a).msb = false := by
      rw [BitVec.msb_eq_decide, BitVec.toNat_ofInt]
      have h3 : ((2 ^ 32 : Nat) : Int) = 4294967296 := rfl
      rw [h3, Int.emod_eq_of_lt ha.1 (by omega)]
      refine decide_eq_false ?_
      have : (2 : Nat) ^ (32 - 1) = 2147483648 := rfl
      rw [this]; omega
    have h4 : (BitVec.ofInt 32 3558460437).msb = true := by decide
    rw [h2, h4]; rfl
  rw [BitVec.msb_eq_decide] at h1
  have h5 := of_decide_eq_true h1
  have : (2 : Nat) ^ (32 - 1) = 2147483648 := rfl
  rw [this] at h5
  omega
theorem hf_inj {a b : Int} (ha : 0 ≤ a ∧ a < 4294967296) (hb : 0 ≤ b ∧ b < 4294967296) (h : hf a = hf b) : a = b := by
  unfold hf at h
  by_cases h1 : a % 2 = 1
  · by_cases h2 : b % 2 = 1
    · rw [if_pos h1, if_pos h2] at h
      have := xor32_inj (a := a / 2) (b := b / 2) (by omega) (by omega) h
      omega
    · rw [if_pos h1, if_neg h2] at h
      have := xor_high (a := a / 2) (by omega)
      omega
  · by_cases h2 : b % 2 = 1
    · rw [if_neg h1, if_pos h2] at h
      have := xor_high (a := b / 2) (by omega)
      omega
    · rw [if_neg h1, if_neg h2] at h
      omega
theorem hfs_inj : ∀ (n : Nat) {a b : Int}, (0 ≤ a ∧ a < 4294967296) → (0 ≤ b ∧ b < 4294967296) → hfs n a = hfs n b → a = b
  | 0, a, b, _, _, h => h
  | n + 1, a, b, ha, hb, h => hf_inj ha hb (hfs_inj n (hf_bd ha.1 ha.2) (hf_bd hb.1 hb.2) h)
theorem crcL_inj (l : List Int) : ∀ {a b : Int}, (0 ≤ a ∧ a < 4294967296) → (0 ≤ b ∧ b < 4294967296) → crcL a l = crcL b l → a = b := by
  induction l with
  | nil => intro a b _ _ h; exact h
  | cons x l ih =>
    intro a b ha hb h
    have h1 := ih (hfs_bd 8 (xor_bd a x).1 (xor_bd a x).2) (hfs_bd 8 (xor_bd b x).1 (xor_bd b x).2) h
    exact xor32_inj ha hb (hfs_inj 8 (xor_bd _ _) (xor_bd _ _) h1)
/-- One byte made another: another sum. -/
theorem crcL_set (l : List Int) : ∀ (i : Nat) (y a : Int), i < l.length → (∀ x ∈ l, 0 ≤ x ∧ x < 256) → (0 ≤ y ∧ y < 256) → l.getD i 0 ≠ y → (0 ≤ a ∧ a < 4294967296) → crcL a (l.set i y) ≠ crcL a l := by
  induction l with
  | nil => intro i y a h; simp at h
  | cons x l ih =>
    intro i y a hi hx hy hne ha
    have hx0 := hx x (List.mem_cons_self ..)
    cases i with
    | zero =>
      intro h
      rw [List.set_cons_zero] at h
      have h1 := crcL_inj l (hfs_bd 8 (xor_bd a y).1 (xor_bd a y).2) (hfs_bd 8 (xor_bd a x).1 (xor_bd a x).2) h
      have h2 := hfs_inj 8 (xor_bd _ _) (xor_bd _ _) h1
      have h3 := xor32_inj' (by omega) (by omega) h2
      exact hne (by simpa using h3.symm)
    | succ i =>
      rw [List.set_cons_succ]
      exact ih i y _ (by simpa using hi) (fun z hz => hx z (List.mem_cons_of_mem _ hz)) hy (by simpa using hne) (hfs_bd 8 (xor_bd a x).1 (xor_bd a x).2)
theorem crcL_app (a : Int) (l m : List Int) : crcL a (l ++ m) = crcL (crcL a l) m := by unfold crcL; rw [List.foldl_append]
theorem xor8_ne {x c : Int} (hx : 0 ≤ x ∧ x < 256) (hc : 1 ≤ c ∧ c ≤ 255) : Go.bits .xor .u8 x c ≠ x ∧ 0 ≤ Go.bits .xor .u8 x c ∧ Go.bits .xor .u8 x c < 256 := by
  have hw : ∀ n : Int, IntKind.u8.wrap n = n % 256 := fun n => IntKind.wrap_u8 n
  have h2 := (BitVec.ofInt 8 x ^^^ BitVec.ofInt 8 c).isLt
  have e : Go.bits .xor .u8 x c = (((BitVec.ofInt 8 x ^^^ BitVec.ofInt 8 c).toNat : Nat) : Int) := by
    unfold Go.bits
    simp only [hw]
    show (((BitVec.ofInt 8 x ^^^ BitVec.ofInt 8 c).toNat : Nat) : Int) % 256 = _
    omega
  rw [e]
  refine ⟨fun h => ?_, by omega, by omega⟩
  have h3 : ((2 ^ 8 : Nat) : Int) = 256 := rfl
  have hxx : ((BitVec.ofInt 8 x).toNat : Int) = x := by rw [BitVec.toNat_ofInt, h3, Int.emod_eq_of_lt hx.1 hx.2]; omega
  have h4 : BitVec.ofInt 8 c ^^^ BitVec.ofInt 8 x = 0#8 ^^^ BitVec.ofInt 8 x := by
    rw [BitVec.zero_xor, BitVec.xor_comm]
    exact BitVec.eq_of_toNat_eq (by omega)
  have h5 := congrArg BitVec.toNat (bv_xor_cancel h4)
  rw [BitVec.toNat_ofInt, h3, Int.emod_eq_of_lt (by omega) (by omega)] at h5
  simp at h5
  omega

/-! ### the reader of draws: it always answers -/
theorem and_i64 (x : Int) (m : Nat) (hm : m < 9223372036854775808) : 0 ≤ Go.bits .and .i64 x (m : Int) ∧ Go.bits .and .i64 x (m : Int) ≤ (m : Int) := by
  have h1 : (BitVec.ofInt IntKind.i64.bits x &&& BitVec.ofInt IntKind.i64.bits (m : Int)).toNat ≤ m := by
    rw [BitVec.toNat_and]
    refine Nat.le_trans Nat.and_le_right ?_
    rw [BitVec.ofInt_natCast, BitVec.toNat_ofNat]
    exact Nat.mod_le _ _
  unfold Go.bits
  simp only [IntKind.wrap_i64]
  omega
theorem and255 (x : Int) : 0 ≤ Go.bits .and .i64 x 255 ∧ Go.bits .and .i64 x 255 < 256 := by
  have h := and_i64 x 255 (by decide)
  rw [show ((255 : Nat) : Int) = 255 from rfl] at h
  omega
theorem wrap_bd (x : Int) : -9223372036854775808 ≤ wrap64 x ∧ wrap64 x ≤ 9223372036854775807 := by unfold wrap64; omega
theorem dByte (l : List Int) (p z : Int) (hl : l.length ≤ 1048576) (hp : 0 ≤ p ∧ p ≤ l.length) : ∃ v p' z', spec_l01Byte.f l p z = some (v, p', z') ∧ (0 ≤ v ∧ v < 256) ∧ 0 ≤ p' ∧ p' ≤ l.length := by
  unfold spec_l01Byte.f
  by_cases h : p < (l.length : Int)
  · rw [if_pos h, if_pos hp.1]
    refine ⟨_, _, _, rfl, and255 _, ?_⟩
    rw [wrapId (by omega) (by omega)]; omega
  · rw [if_neg h]
    exact ⟨_, _, _, rfl, and255 _, hp⟩
theorem dBelow (l : List Int) (p z n : Int) (hl : l.length ≤ 1048576) (hp : 0 ≤ p ∧ p ≤ l.length) (hn : 0 < n) : ∃ v p' z', spec_l01Below.f l p z n = some (v, p', z') ∧ (0 ≤ v ∧ v < n) ∧ 0 ≤ p' ∧ p' ≤ l.length := by
  unfold spec_l01Below.f
  rw [if_neg (by omega)]
  by_cases h : n ≤ 256
  · rw [if_pos h]
    obtain ⟨v, p1, z1, e1, hv, hp1⟩ := dByte l p z hl hp
    rw [e1]
    simp only [Option.bind_some]
    rw [if_neg (by omega)]
    refine ⟨_, _, _, rfl, ?_, hp1⟩
    rw [tmod_nn hv.1]
    exact ⟨Int.emod_nonneg _ (by omega), Int.emod_lt_of_pos _ hn⟩
  · rw [if_neg h]
    obtain ⟨v1, p1, z1, e1, hv1, hp1⟩ := dByte l p z hl hp
    rw [e1]
    simp only [Option.bind_some]
    obtain ⟨v2, p2, z2, e2, hv2, hp2⟩ := dByte l p1 z1 hl hp1
    rw [e2]
    simp only [Option.bind_some]
    obtain ⟨v3, p3, z3, e3, hv3, hp3⟩ := dByte l p2 z2 hl hp2
    rw [e3]
    simp only [Option.bind_some]
    obtain ⟨v4, p4, z4, e4, hv4, hp4⟩ := dByte l p3 z3 hl hp3
    rw [e4]
    simp only [Option.bind_some]
    rw [if_neg (by omega)]
    refine ⟨_, _, _, rfl, ?_, hp4⟩
    rw [wrapId (x := v1 * 16777216) (by omega) (by omega), wrapId (x := v2 * 65536) (by omega) (by omega), wrapId (x := v1 * 16777216 + v2 * 65536) (by omega) (by omega), wrapId (x := v3 * 256) (by omega) (by omega), wrapId (x := v1 * 16777216 + v2 * 65536 + v3 * 256) (by omega) (by omega), wrapId (by omega) (by omega), tmod_nn (by omega)]
    exact ⟨Int.emod_nonneg _ (by omega), Int.emod_lt_of_pos _ hn⟩
theorem dNew_l0 (l : List Int) (hl : l.length ≤ 1048576) (d : Nat) : ∀ (i : Nat) (h : Int), l.length - i = d → i ≤ l.length → Gets (fun k => spec_l01New.l0 k l h (i : Int)) (fun r => r.1 = l ∧ r.2.1 = 0) := by
  induction d with
  | zero =>
    intro i h hd hi
    exact Gets.step (fun k => spec_l01New.l0.eq_2 ..) (Gets.neg (by omega) (Gets.ret ⟨rfl, rfl⟩))
  | succ d ih =>
    intro i h hd hi
    refine Gets.step (fun k => spec_l01New.l0.eq_2 ..) (Gets.pos (by omega) (Gets.ite (fun _ => Gets.pos (by omega) ?_) (fun _ => Gets.ret ⟨rfl, rfl⟩)))
    rw [wrapId (x := (i : Int) + 1) (by omega) (by omega), show ((i : Int) + 1) = ((i + 1 : Nat) : Int) by omega]
    exact ih (i + 1) _ (by omega) (by omega)
theorem dNew (l : List Int) (hl : l.length ≤ 1048576) : Gets (fun k => spec_l01New.f k l) (fun r => r.1 = l ∧ r.2.1 = 0) := by
  unfold spec_l01New.f
  exact dNew_l0 l hl _ 0 _ rfl (by omega)

theorem dText_l0 (l : List Int) (hl : l.length ≤ 1048576) (n : Int) (hn : n ≤ 5000) (d : Nat) : ∀ (i : Nat) (acc : List Int) (p z : Int), (n - i).toNat = d → acc.length = i → (0 ≤ p ∧ p ≤ l.length) → Gets (fun k => spec_l01Text.l0 k n acc (i : Int) l p z) (fun r => r.1.size = max i n.toNat ∧ 0 ≤ r.2.1 ∧ r.2.1 ≤ l.length) := by
  induction d with
  | zero =>
    intro i acc p z hd ha hp
    refine Gets.step (fun k => spec_l01Text.l0.eq_2 ..) (Gets.neg (by omega) (Gets.ret ⟨?_, hp⟩))
    show (strOfNums acc).size = _
    rw [strOfNums_size]; omega
  | succ d ih =>
    intro i acc p z hd ha hp
    refine Gets.step (fun k => spec_l01Text.l0.eq_2 ..) (Gets.pos (by omega) ?_)
    obtain ⟨v, p', z', e, hv, hp'⟩ := dByte l p z hl hp
    simp only [e, Option.bind_some]
    refine Gets.pos (by omega) ?_
    rw [wrapId (x := (i : Int) + 1) (by omega) (by omega), show ((i : Int) + 1) = ((i + 1 : Nat) : Int) by omega]
    exact (ih (i + 1) _ p' z' (by omega) (by simp; omega) hp').mono (fun r hr => ⟨by omega, hr.2⟩)
theorem dText (l : List Int) (p z n : Int) (hl : l.length ≤ 1048576) (hp : 0 ≤ p ∧ p ≤ l.length) (hn : 0 ≤ n ∧ n ≤ 5000) : Gets (fun k => spec_l01Text.f k l p z n) (fun r => r.1.size = n.toNat ∧ 0 ≤ r.2.1 ∧ r.2.1 ≤ l.length) := by
  unfold spec_l01Text.f
  refine Gets.neg (by omega) (Gets.step (fun k => spec_l01Text.j0.eq_2 ..) ?_)
  exact (dText_l0 l hl n (by omega) _ 0 [] p z rfl rfl hp).mono (fun r hr => ⟨by omega, hr.2⟩)

theorem dPlaces_l0 (l : List Int) (hl : l.length ≤ 1048576) (d : Nat) : ∀ (i : Nat) (acc : List Int) (p z : Int), 12 - i = d → acc.length = i → i ≤ 12 → (∀ x ∈ acc, 0 ≤ x ∧ x < 10000) → (0 ≤ p ∧ p ≤ l.length) → Gets (fun k => spec_DrawPlaces.l0 k acc (i : Int) l p z) (fun r => r.length = 12 ∧ ∀ x ∈ r, 0 ≤ x ∧ x < 10000) := by
  induction d with
  | zero =>
    intro i acc p z hd ha hi hm hp
    exact Gets.step (fun k => spec_DrawPlaces.l0.eq_2 ..) (Gets.neg (by omega) (Gets.ret ⟨by omega, hm⟩))
  | succ d ih =>
    intro i acc p z hd ha hi hm hp
    refine Gets.step (fun k => spec_DrawPlaces.l0.eq_2 ..) (Gets.pos (by omega) ?_)
    obtain ⟨v, p', z', e, hv, hp'⟩ := dBelow l p z 10000 hl hp (by omega)
    simp only [e, Option.bind_some]
    refine Gets.pos (by omega) ?_
    rw [wrapId (x := (i : Int) + 1) (by omega) (by omega), show ((i : Int) + 1) = ((i + 1 : Nat) : Int) by omega]
    refine ih (i + 1) _ p' z' (by omega) (by simp; omega) (by omega) (fun u hu => ?_) hp'
    rcases List.mem_append.1 hu with h1 | h1
    · exact hm u h1
    · rw [List.mem_singleton.1 h1]; exact hv
theorem dPlaces (l : List Int) (hl : l.length ≤ 1048576) : Gets (fun k => spec_DrawPlaces.f k l) (fun r => r.length = 12 ∧ ∀ x ∈ r, 0 ≤ x ∧ x < 10000) := by
  unfold spec_DrawPlaces.f
  refine Gets.bind (dNew l hl) (fun c hc => ?_)
  obtain ⟨c1, c2, c3⟩ := c
  obtain ⟨h1, h2⟩ := hc
  simp only at h1 h2
  subst h1 h2
  obtain ⟨v, p, z, e, hv, hp⟩ := dByte c1 0 c3 hl (by omega)
  simp only [e, Option.bind_some]
  exact dPlaces_l0 c1 hl _ 0 [] p z rfl rfl (by omega) (by simp) hp

theorem dTexts_l0 (l : List Int) (hl : l.length ≤ 1048576) (d : Nat) : ∀ (i : Nat) (acc : List ByteArray) (p z : Int), 9 - i = d → acc.length ≤ i → i ≤ 9 → (∀ t ∈ acc, t.size ≤ 11) → (0 ≤ p ∧ p ≤ l.length) → Gets (fun k => spec_DrawTexts.l0 k acc (i : Int) l p z) (fun r => r.length ≤ 9 ∧ ∀ t ∈ r, t.size ≤ 11) := by
  induction d with
  | zero =>
    intro i acc p z hd ha hi hm hp
    refine Gets.step (fun k => spec_DrawTexts.l0.eq_2 ..) ?_
    obtain ⟨v, p', z', e, hv, hp'⟩ := dBelow l p z 9 hl hp (by omega)
    simp only [e, Option.bind_some]
    exact Gets.neg (by omega) (Gets.ret ⟨by omega, hm⟩)
  | succ d ih =>
    intro i acc p z hd ha hi hm hp
    refine Gets.step (fun k => spec_DrawTexts.l0.eq_2 ..) ?_
    obtain ⟨v, p', z', e, hv, hp'⟩ := dBelow l p z 9 hl hp (by omega)
    simp only [e, Option.bind_some]
    refine Gets.ite (fun h => ?_) (fun h => Gets.ret ⟨by omega, hm⟩)
    obtain ⟨v2, p2, z2, e2, hv2, hp2⟩ := dBelow l p' z' 12 hl hp' (by omega)
    simp only [e2, Option.bind_some]
    refine Gets.bind (dText l p2 z2 v2 hl hp2 (by omega)) (fun t ht => Gets.pos (by omega) ?_)
    rw [wrapId (x := (i : Int) + 1) (by omega) (by omega), show ((i : Int) + 1) = ((i + 1 : Nat) : Int) by omega]
    refine ih (i + 1) _ t.2.1 t.2.2 (by omega) (by simp; omega) (by omega) (fun u hu => ?_) ht.2
    rcases List.mem_append.1 hu with h1 | h1
    · exact hm u h1
    · rw [List.mem_singleton.1 h1, ht.1]; omega
theorem dTexts (l : List Int) (hl : l.length ≤ 1048576) : Gets (fun k => spec_DrawTexts.f k l) (fun r => r.length ≤ 9 ∧ ∀ t ∈ r, t.size ≤ 11) := by
  unfold spec_DrawTexts.f
  refine Gets.bind (dNew l hl) (fun c hc => ?_)
  obtain ⟨c1, c2, c3⟩ := c
  obtain ⟨h1, h2⟩ := hc
  simp only at h1 h2
  subst h1 h2
  exact dTexts_l0 c1 hl _ 0 [] 0 c3 rfl (by simp) (by omega) (by simp) (by omega)

theorem feed_nil (d : Nat) (r : ByteArray) (h : r.size = 0) : feedF d r = ((⟨#[]⟩ : ByteArray), false, []) := by
  cases d with
  | zero => rfl
  | succ d => unfold feedF; rw [if_pos h]
theorem feed_torn (T : ByteArray) (n : Nat) (hn : bt T 0 = n) (hz : T.size = 3 + n) (h60 : n ≤ 60) : feedF T.size T = ((⟨#[]⟩ : ByteArray), true, []) ∨ ∃ u, feedF T.size T = ((⟨#[]⟩ : ByteArray), false, [u]) := by
  obtain ⟨d, hd⟩ : ∃ d, T.size = d + 1 := ⟨T.size - 1, by omega⟩
  rw [hd]
  unfold feedF
  rw [if_neg (by omega), hn, if_neg (by omega), if_neg (by omega)]
  split
  · have h3 := bext_size T (3 + n) T.size (by omega)
    right
    simp only [Int.toNat_natCast]
    rw [feed_nil d (T.extract (3 + n) T.size) (by omega)]
    exact ⟨_, rfl⟩
  · exact .inl rfl
theorem torn_j0 (p : List Int) (hpl : p.length = 12) (hpm : ∀ x ∈ p, 0 ≤ x ∧ x < 10000) (s : ByteArray) (hs : s.size ≤ 20) (h1s : 1 ≤ s.size) : Gets (fun k => laws_FnTorn.j0 k p s) (· = true) := by
  refine Gets.step (fun k => laws_FnTorn.j0.eq_2 ..) ?_
  have eF : Gets (fun k => impl_FrameOf.f k s) (· = (frameT s, true)) := (implFrame s (by omega)).mono (fun r hr => hr.1 (by omega))
  refine Gets.bindE eF.ev ?_
  have hL := frame_len s (by omega)
  have hz : (frameT s).size = 3 + s.size := by rw [size_eq, hL]
  refine Gets.pos (by show (frameT s).size ≤ 140737488355328; omega) ?_
  simp only [Option.bind_some]
  obtain ⟨q0, r0, h0⟩ : ∃ q : Int, rd p 0 = q ∧ 0 ≤ q ∧ q < 10000 := ⟨p[0], rd_get (by omega), hpm _ (List.getElem_mem _)⟩
  obtain ⟨q1, r1, h1⟩ : ∃ q : Int, rd p 1 = q ∧ 0 ≤ q ∧ q < 10000 := ⟨p[1], rd_get (by simp only [Int.toNat_one]; omega), hpm _ (List.getElem_mem _)⟩
  rw [r0, r1, tmod_nn h0.1, tmod_nn h1.1, hL, wrapId (x := 1 + q1 % 255) (by omega) (by omega), wrapId (x := ((3 + s.size : Nat) : Int) - 1) (by omega) (by omega)]
  have hi0 : 0 ≤ q0 % (((3 + s.size : Nat) : Int) - 1) := Int.emod_nonneg _ (by omega)
  have hi1 : q0 % (((3 + s.size : Nat) : Int) - 1) < ((3 + s.size : Nat) : Int) - 1 := Int.emod_lt_of_pos _ (by omega)
  generalize q0 % (((3 + s.size : Nat) : Int) - 1) = i at hi0 hi1 ⊢
  rw [wrapId (x := 1 + i) (by omega) (by omega)]
  refine Gets.pos (by omega) (Gets.neg (by omega) (Gets.pos (by omega) (Gets.pos (by omega) (Gets.pos (by omega) ?_))))
  have hc : 1 ≤ (1 + q1 % 255) % 256 ∧ (1 + q1 % 255) % 256 ≤ 255 := by omega
  generalize (1 + q1 % 255) % 256 = c at hc ⊢
  have hx : 0 ≤ rd (bytesOf (frameT s)) (1 + i) ∧ rd (bytesOf (frameT s)) (1 + i) < 256 := by
    rw [rd_get (by omega)]; exact bytesOf_range (List.getElem_mem _)
  obtain ⟨_, hy0, hy1⟩ := xor8_ne hx hc
  generalize Go.bits .xor .u8 (rd (bytesOf (frameT s)) (1 + i)) c = y at hy0 hy1 ⊢
  have hr : ∀ x ∈ (bytesOf (frameT s)).set (1 + i).toNat y, 0 ≤ x ∧ x < 256 := by
    intro x hx
    rcases List.mem_or_eq_of_mem_set hx with h | h
    · exact bytesOf_range h
    · exact h ▸ ⟨hy0, hy1⟩
  obtain ⟨T, hT⟩ : ∃ T, T = strOfNums ((bytesOf (frameT s)).set (1 + i).toNat y) := ⟨_, rfl⟩
  have hb : bytesOf T = (bytesOf (frameT s)).set (1 + i).toNat y := by rw [hT]; exact bytesOf_str hr
  have hTz : T.size = 3 + s.size := by rw [size_eq, hb, List.length_set, hL]
  rw [← hT]
  have hT0 : bt T 0 = s.size := by
    rw [bt_getD, hb, List.getD_eq_getElem?_getD, List.getElem?_set_ne (by omega), frame_bytes s (by omega)]
    rfl
  have e1 : feedTop (⟨#[]⟩ : ByteArray) false T = feedF T.size T := by
    have he : (⟨#[]⟩ : ByteArray) ++ T = T := bytesOf_inj (by rw [bytesOf_app, bytesOf_empty, List.nil_append])
    have hs0 : (⟨#[]⟩ : ByteArray).size = 0 := rfl
    unfold feedTop
    rw [if_neg (by rintro (h | h); cases h; omega), he, hs0, Nat.zero_add]
  refine Gets.bindE (implFeed (⟨#[]⟩ : ByteArray) false T (by decide) (by omega)).ev ?_
  rw [e1]
  have h2 := specFeed (⟨#[]⟩ : ByteArray) false T (by decide) (by omega)
  rw [e1] at h2
  rcases feed_torn T s.size hT0 hTz (by omega) with h | ⟨u, h⟩
  · rw [h] at h2 ⊢
    refine Gets.bindE (implFeed (⟨#[]⟩ : ByteArray) true (frameT s) (by decide) (by omega)).ev (Gets.bindE h2.ev ?_)
    have e2 : feedTop (⟨#[]⟩ : ByteArray) true (frameT s) = ((⟨#[]⟩ : ByteArray), true, []) := by
      unfold feedTop
      rw [if_pos (.inl rfl)]
    rw [e2]
    exact Gets.pos (by simp) (Gets.neg (by simp) (Gets.pos rfl (Gets.pos (by simp) (Gets.pos (by simp) (Gets.pos (by simp) (Gets.ret rfl))))))
  · rw [h] at h2 ⊢
    refine Gets.bindE (implFeed (⟨#[]⟩ : ByteArray) false (frameT s) (by decide) (by omega)).ev (Gets.bindE h2.ev ?_)
    exact Gets.pos (by simp) (Gets.neg (by simp) (Gets.pos rfl (Gets.neg (by simp) (Gets.pos (by simp) (Gets.ret rfl)))))
theorem FnTorn : Stat.FnTorn := by
  intro l _
  refine Gets.rounds ?_
  unfold laws_FnTorn.f laws_big.f
  simp only [Option.bind_some]
  refine Gets.ite (fun _ => Gets.ret rfl) (fun h => ?_)
  have hl : l.length ≤ 1048576 := by
    rcases Nat.lt_or_ge 1048576 l.length with h1 | h1
    · exact absurd (decide_eq_true (by omega)) h
    · exact h1
  refine Gets.bind (dTexts l hl) (fun t ht => Gets.bind (dPlaces l hl) (fun p hp => ?_))
  have hsome : (⟨#[115, 111, 109, 101]⟩ : ByteArray).size = 4 := rfl
  refine Gets.ite (fun h1 => Gets.pos (by omega) ?_) (fun _ => torn_j0 p hp.1 hp.2 _ (by decide) (by decide))
  have e1 : rdOf ByteArray.empty t 0 = t[0] := rdS_get (by omega)
  have h3 := ht.2 t[0] (List.getElem_mem _)
  rw [e1]
  exact Gets.pos (by omega) (torn_j0 p hp.1 hp.2 _ (by rw [size_app]; omega) (by rw [size_app]; omega))

end Go.Proofs.Ytfakkehopmihoaa.Pure
