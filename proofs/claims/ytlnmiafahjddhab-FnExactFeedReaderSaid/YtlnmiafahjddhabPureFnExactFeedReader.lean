/- The program's FeedReader and the reference's answer alike at every reader and text, and leave no common memory behind. -/
import Derived.Test.YtlnmiafahjddhabStatFnExactFeedReader
import Derived.Lib.Strings
set_option linter.unusedVariables false
set_option linter.unusedSimpArgs false
namespace Go.Proofs.Ytlnmiafahjddhab.Pure
open Go.RowKit Go.Proofs.Ytlnmiafahjddhab.PFnExactFeedReader Go.Proofs.YtlnmiafahjddhabW.PrintWords Go.Proofs.YtlnmiafahjddhabW.PrintLast

/-! ### plain words: from some number of rounds on -/
def Gets {α : Type} (f : Nat → Option α) (Q : α → Prop) : Prop := ∃ r, Ev f r ∧ Q r
theorem Gets.ret {α : Type} {Q : α → Prop} {r : α} (h : Q r) : Gets (fun _ => some r) Q := ⟨r, Ev.now r, h⟩
theorem Gets.none {α : Type} {Q : α → Prop} (h : False) : Gets (fun _ => (Option.none : Option α)) Q := h.elim
theorem Gets.step {α : Type} {g f : Nat → Option α} {Q : α → Prop} (h : ∀ k, g (k + 1) = f k) (k : Gets f Q) : Gets g Q := by
  obtain ⟨r, hr, hq⟩ := k
  exact ⟨r, Ev.step h hr, hq⟩
theorem Ev.ite {α : Type} {c : Prop} [Decidable c] {f g : Nat → Option α} {r : α} (h : c → Ev f r) (k : ¬ c → Ev g r) : Ev (fun n => if c then f n else g n) r := by
  by_cases hc : c
  · simp only [hc, if_true]; exact h hc
  · simp only [hc, if_false]; exact k hc
theorem Gets.ite {α : Type} {c : Prop} [Decidable c] {f g : Nat → Option α} {Q : α → Prop} (h : c → Gets f Q) (k : ¬ c → Gets g Q) : Gets (fun n => if c then f n else g n) Q := by
  by_cases hc : c
  · simp only [hc, if_true]; exact h hc
  · simp only [hc, if_false]; exact k hc
theorem Gets.pos {α : Type} {c : Prop} [Decidable c] {f g : Nat → Option α} {Q : α → Prop} (hc : c) (h : Gets f Q) : Gets (fun n => if c then f n else g n) Q := by
  simp only [hc, if_true]; exact h
theorem Gets.neg {α : Type} {c : Prop} [Decidable c] {f g : Nat → Option α} {Q : α → Prop} (hc : ¬ c) (h : Gets g Q) : Gets (fun n => if c then f n else g n) Q := by
  simp only [hc, if_false]; exact h
theorem Gets.bind {α β : Type} {g : Nat → Option α} {f : Nat → α → Option β} {P : α → Prop} {Q : β → Prop} (h : Gets g P) (k : ∀ a, P a → Gets (fun n => f n a) Q) : Gets (fun n => (g n).bind (f n)) Q := by
  obtain ⟨a, ha, hp⟩ := h
  obtain ⟨r, hr, hq⟩ := k a hp
  exact ⟨r, Ev.bind ha hr, hq⟩
theorem Gets.bindE {α β : Type} {g : Nat → Option α} {f : Nat → α → Option β} {a : α} {Q : β → Prop} (h : Ev g a) (k : Gets (fun n => f n a) Q) : Gets (fun n => (g n).bind (f n)) Q := by
  obtain ⟨r, hr, hq⟩ := k
  exact ⟨r, Ev.bind h hr, hq⟩
theorem Gets.mono {α : Type} {f : Nat → Option α} {P Q : α → Prop} (h : Gets f P) (k : ∀ a, P a → Q a) : Gets f Q := by
  obtain ⟨r, hr, hp⟩ := h
  exact ⟨r, hr, k r hp⟩
theorem Gets.rounds {α : Type} {f : Nat → Option α} {r : α} (h : Gets f (· = r)) : ∃ k, f k = some r := by
  obtain ⟨a, ha, rfl⟩ := h
  exact ha.rounds
theorem Gets.ev {α : Type} {f : Nat → Option α} {r : α} (h : Gets f (· = r)) : Ev f r := by
  obtain ⟨a, ha, rfl⟩ := h
  exact ha
theorem Ev.gets {α : Type} {f : Nat → Option α} {r : α} {Q : α → Prop} (h : Ev f r) (hq : Q r) : Gets f Q := ⟨r, h, hq⟩
theorem Gets.same {α : Type} {o : Option α} {Q : α → Prop} {r : α} (h : o = some r) (hq : Q r) : Gets (fun _ => o) Q := by
  subst h; exact Gets.ret hq
theorem wrapId {x : Int} (h0 : -9223372036854775808 ≤ x) (h1 : x ≤ 9223372036854775807) : wrap64 x = x := by
  unfold wrap64; omega
theorem i64_bd {n : Int} (h : (Lit.int .i64 n).wf = true) : -9223372036854775808 ≤ n ∧ n ≤ 9223372036854775807 := by
  have hm : IntKind.i64.min = -9223372036854775808 := rfl
  simp [Lit.wf, hm] at h
  exact h
theorem boolEq {a b : Bool} {P Q : Prop} (ha : a = true ↔ P) (hb : b = true ↔ Q) (h : P ↔ Q) : a = b := by
  rw [Bool.eq_iff_iff, ha, hb, h]
theorem tmod_nn {a b : Int} (h : 0 ≤ a) : Int.tmod a b = a % b := Int.tmod_eq_emod_of_nonneg h
theorem tdiv_nn {a b : Int} (h : 0 ≤ a) : Int.tdiv a b = a / b := Int.tdiv_eq_ediv_of_nonneg h

/-! ### check sums -/
def hf (x : Int) : Int := if x % 2 = 1 then Go.bits .xor .u32 (x / 2) 3558460437 else x / 2
def hfs : Nat → Int → Int
  | 0, x => x
  | n + 1, x => hfs n (hf x)
def crcL (x : Int) (l : List Int) : Int := l.foldl (fun x b => hfs 8 (Go.bits .xor .u32 x b)) x
theorem u32_wrap (n : Int) : IntKind.u32.wrap n = n % 4294967296 := IntKind.wrap_u32 n
theorem xor_bd (a b : Int) : 0 ≤ Go.bits .xor .u32 a b ∧ Go.bits .xor .u32 a b < 4294967296 := by
  unfold Go.bits
  simp only [u32_wrap]
  omega
theorem and1 (x : Int) (h0 : 0 ≤ x) (h1 : x < 4294967296) : Go.bits .and .u32 x 1 = x % 2 :=
  Go.bits_mask .u32 32 (by decide) (fun n a b => by rw [u32_wrap]; omega) 1 (by decide) x h0 (by simpa using h1)
theorem hf_bd {x : Int} (h0 : 0 ≤ x) (h1 : x < 4294967296) : 0 ≤ hf x ∧ hf x < 4294967296 := by
  unfold hf
  split
  · exact xor_bd _ _
  · omega
theorem hfs_bd : ∀ (n : Nat) {x : Int}, 0 ≤ x → x < 4294967296 → 0 ≤ hfs n x ∧ hfs n x < 4294967296
  | 0, x, h0, h1 => ⟨h0, h1⟩
  | n + 1, x, h0, h1 => hfs_bd n (hf_bd h0 h1).1 (hf_bd h0 h1).2
theorem crcL_bd (l : List Int) : ∀ {x : Int}, 0 ≤ x → x < 4294967296 → 0 ≤ crcL x l ∧ crcL x l < 4294967296 := by
  induction l with
  | nil => intro x h0 h1; exact ⟨h0, h1⟩
  | cons b l ih => intro x h0 h1; exact ih (hfs_bd 8 (xor_bd x b).1 (xor_bd x b).2).1 (hfs_bd 8 (xor_bd x b).1 (xor_bd x b).2).2
theorem bytes_drop (s : ByteArray) (i : Int) (h0 : 0 ≤ i) (h1 : i < s.size) : (bytesOf s).drop i.toNat = bt s i :: (bytesOf s).drop (i + 1).toNat := by
  have hl : (bytesOf s).length = s.size := bytesOf_length s
  rw [List.drop_eq_getElem_cons (by omega), show (i + 1).toNat = i.toNat + 1 by omega]
  congr 1
  unfold bt bytesOf
  rw [dif_pos (by omega)]
  simp
  rfl

theorem implSum_l1 (s : ByteArray) (i : Int) (Q : Int → Prop) (d : Nat) : ∀ x j : Int, 0 ≤ x → x < 4294967296 → 0 ≤ j → 8 - j = d → Gets (fun k => impl_SumMore.l0 k (hfs d x) s (wrap64 (i + 1))) Q → Gets (fun k => impl_SumMore.l1 k x s i j) Q := by
  induction d with
  | zero =>
    intro x j h0 h1 h2 hd h
    refine Gets.step (fun k => impl_SumMore.l1.eq_2 ..) ?_
    exact Gets.neg (by omega) h
  | succ d ih =>
    intro x j h0 h1 h2 hd h
    refine Gets.step (fun k => impl_SumMore.l1.eq_2 ..) ?_
    refine Gets.pos (by omega) ?_
    rw [and1 x h0 h1, wrapId (by omega) (by omega)]
    have hb := hf_bd h0 h1
    have hh : hfs (d + 1) x = hfs d (hf x) := rfl
    rw [hh] at h
    refine Gets.ite (fun hc => ?_) (fun hc => ?_)
    · have e : hf x = Go.bits .xor .u32 (x / 2) 3558460437 := by unfold hf; rw [if_pos hc]
      rw [e] at h hb
      exact ih _ _ hb.1 hb.2 (by omega) (by omega) h
    · have e : hf x = x / 2 := by unfold hf; rw [if_neg hc]
      rw [e] at h hb
      exact ih _ _ hb.1 hb.2 (by omega) (by omega) h
theorem implSum_l0 (s : ByteArray) (hs : s.size ≤ 140737488351232) (d : Nat) : ∀ x i : Int, 0 ≤ x → x < 4294967296 → 0 ≤ i → (s.size : Int) - i = d → Gets (fun k => impl_SumMore.l0 k x s i) (· = crcL x ((bytesOf s).drop i.toNat)) := by
  induction d with
  | zero =>
    intro x i h0 h1 h2 hd
    refine Gets.step (fun k => impl_SumMore.l0.eq_2 ..) ?_
    refine Gets.neg (by omega) (Gets.ret ?_)
    rw [List.drop_of_length_le (by rw [bytesOf_length]; omega)]
    rfl
  | succ d ih =>
    intro x i h0 h1 h2 hd
    refine Gets.step (fun k => impl_SumMore.l0.eq_2 ..) ?_
    refine Gets.pos (by omega) (Gets.pos h2 ?_)
    have hr := bt_range s i
    rw [show bt s i % 4294967296 = bt s i by omega]
    refine implSum_l1 s i _ 8 _ 0 (xor_bd _ _).1 (xor_bd _ _).2 (by omega) (by omega) ?_
    rw [wrapId (by omega) (by omega), bytes_drop s i h2 (by omega)]
    have hb := hfs_bd 8 (xor_bd x (bt s i)).1 (xor_bd x (bt s i)).2
    exact ih _ (i + 1) hb.1 hb.2 (by omega) (by omega)
theorem implSumMore (x : Int) (s : ByteArray) (h0 : 0 ≤ x) (h1 : x < 4294967296) (hs : s.size ≤ 140737488351232) : Gets (fun k => impl_SumMore.f k x s) (· = crcL x (bytesOf s)) := by
  unfold impl_SumMore.f
  exact implSum_l0 s hs s.size x 0 h0 h1 (by omega) (by omega)

def four (n : Int) : List Int := [n / 16777216 % 256, n / 65536 % 256, n / 256 % 256, n % 256]
def sumT (s : ByteArray) : ByteArray := strOfNums (four (crcL 4294967295 (bytesOf s)))
theorem sumT_size (s : ByteArray) : (sumT s).size = 4 := by unfold sumT; rw [strOfNums_size]; rfl

theorem implSumOf (s : ByteArray) (hs : s.size ≤ 140737488351232) : Gets (fun k => impl_SumOf.f k s) (· = crcL 4294967295 (bytesOf s)) := by
  unfold impl_SumOf.f
  exact Gets.bind (implSumMore _ s (by omega) (by omega) hs) (fun a ha => Gets.ret ha)
theorem implSumText (s : ByteArray) (hs : s.size ≤ 140737488351232) : Gets (fun k => impl_sumText.f k s) (· = sumT s) := by
  unfold impl_sumText.f
  refine Gets.bind (implSumOf s hs) (fun a ha => Gets.ret ?_)
  subst ha
  rfl

/-! ### texts as lists of numbers -/
theorem bytesOf_inj {a b : ByteArray} (h : bytesOf a = bytesOf b) : a = b := by
  have hl : a.data.toList = b.data.toList := by
    unfold bytesOf at h
    exact List.map_inj_right (fun x y hxy => UInt8.toNat_inj.1 (by exact_mod_cast hxy)) |>.1 h
  have hd : a.data = b.data := Array.toList_inj.1 hl
  cases a; cases b; cases hd; rfl
theorem toList_iff (a b : ByteArray) : a.toList = b.toList ↔ a = b := by
  rw [Lib.toList_data, Lib.toList_data]
  exact ⟨fun h => bytesOf_inj (by unfold bytesOf; rw [h]), fun h => by rw [h]⟩
theorem bytesOf_range {s : ByteArray} {x : Int} (h : x ∈ bytesOf s) : 0 ≤ x ∧ x < 256 := by
  unfold bytesOf at h
  obtain ⟨b, _, rfl⟩ := List.mem_map.1 h
  have := b.toNat_lt
  omega
theorem bytesOf_str {xs : List Int} (h : ∀ x ∈ xs, 0 ≤ x ∧ x < 256) : bytesOf (strOfNums xs) = xs := by
  unfold bytesOf
  rw [strOfNums_data, List.map_map]
  conv => rhs; rw [← List.map_id xs]
  refine List.map_congr_left (fun x hx => ?_)
  have := h x hx
  simp only [Function.comp, UInt8.toNat_ofNat', id]
  omega
theorem str_bytesOf (s : ByteArray) : strOfNums (bytesOf s) = s := bytesOf_inj (bytesOf_str (fun _ => bytesOf_range))
theorem bytesOf_extract (s : ByteArray) (a b : Nat) : bytesOf (s.extract a b) = ((bytesOf s).drop a).take (b - a) := by
  unfold bytesOf
  rw [Lib.extract_data, List.map_take, List.map_drop]
theorem bytesOf_app (a b : ByteArray) : bytesOf (a ++ b) = bytesOf a ++ bytesOf b := by
  unfold bytesOf
  rw [← List.map_append]
  congr 1
  first | done | simp
theorem bt_getD (s : ByteArray) (i : Int) : bt s i = (bytesOf s).getD i.toNat 0 := (rd_bytesOf s i).symm
theorem bytesOf_empty : bytesOf (⟨#[]⟩ : ByteArray) = [] := rfl
theorem size_eq (s : ByteArray) : s.size = (bytesOf s).length := (bytesOf_length s).symm
theorem size_app (a b : ByteArray) : (a ++ b).size = a.size + b.size := by simp

theorem str_app (xs ys : List Int) : strOfNums xs ++ strOfNums ys = strOfNums (xs ++ ys) := by
  have h : ∀ zs, bytesOf (strOfNums zs) = zs.map (fun n => ((UInt8.ofNat n.toNat).toNat : Int)) := fun zs => by
    unfold bytesOf; rw [strOfNums_data, List.map_map]; rfl
  refine bytesOf_inj ?_
  rw [bytesOf_app, h, h, h, List.map_append]
theorem bap_assoc (a b c : ByteArray) : (a ++ b) ++ c = a ++ (b ++ c) := bytesOf_inj (by rw [bytesOf_app, bytesOf_app, bytesOf_app, bytesOf_app, List.append_assoc])

theorem implHalf (s : ByteArray) (hs : s.size ≤ 140737488351232) : Gets (fun k => impl_halfSum.f k s) (· = (sumT s).extract 2 (sumT s).size) := by
  unfold impl_halfSum.f
  exact Gets.bindE (implSumText s hs).ev (Gets.pos (by rw [sumT_size]; omega) (Gets.ret rfl))
def halfL (s : ByteArray) : List Int := [crcL 4294967295 (bytesOf s) / 256 % 256, crcL 4294967295 (bytesOf s) % 256]
theorem four_range (n : Int) : ∀ x ∈ four n, 0 ≤ x ∧ x < 256 := by
  intro x hx
  simp only [four, List.mem_cons, List.not_mem_nil, or_false] at hx
  rcases hx with rfl | rfl | rfl | rfl <;> omega
theorem half_bytes (s : ByteArray) : bytesOf ((sumT s).extract 2 (sumT s).size) = halfL s := by
  rw [bytesOf_extract, sumT_size]
  unfold sumT
  rw [bytesOf_str (four_range _)]
  rfl
theorem half_str (s : ByteArray) : (sumT s).extract 2 (sumT s).size = strOfNums (halfL s) := by
  refine bytesOf_inj ?_
  rw [half_bytes, bytesOf_str]
  intro x hx
  simp only [halfL, List.mem_cons, List.not_mem_nil, or_false] at hx
  rcases hx with rfl | rfl <;> omega
def frameT (s : ByteArray) : ByteArray := strOfNums ((s.size : Int) :: halfL s) ++ s

/-! ### rows of numbers -/
theorem rd_get {l : List Int} {i : Int} (h : i.toNat < l.length) : rd l i = l[i.toNat] := by
  unfold rd; rw [List.getD_eq_getElem?_getD, List.getElem?_eq_getElem h]; rfl
theorem fill_step {α : Type} (l : List α) (d : α) (i : Nat) (h : i < l.length) : (l.take i ++ List.replicate (l.length - i) d).set i l[i] = l.take (i + 1) ++ List.replicate (l.length - (i + 1)) d := by
  have e : List.replicate (l.length - i) d = d :: List.replicate (l.length - (i + 1)) d := by
    rw [show l.length - i = (l.length - (i + 1)) + 1 by omega]; rfl
  rw [e, List.set_append_right _ _ (by rw [List.length_take]; omega), List.length_take, show i - min i l.length = 0 by omega, List.set_cons_zero, List.take_succ_eq_append_getElem h, List.append_assoc]
  rfl
theorem drop_at {α : Type} (l : List α) (i : Nat) (h : i < l.length) : l.drop i = l[i] :: l.drop (i + 1) := List.drop_eq_getElem_cons h
def marks (k : Int) (n : Nat) : List Int := (List.range n).map (fun (i : Nat) => k + (i : Int))
theorem marks_length (k : Int) (n : Nat) : (marks k n).length = n := by simp [marks]
theorem marks_get (k : Int) (n i : Nat) (h : i < n) : (marks k n)[i]'(by rw [marks_length]; exact h) = k + i := by simp [marks]

theorem rdS_get {l : List ByteArray} {i : Int} (h : i.toNat < l.length) : rdOf ByteArray.empty l i = l[i.toNat] := by
  unfold rdOf; rw [List.getD_eq_getElem?_getD, List.getElem?_eq_getElem h]; rfl
def shortL (l : List ByteArray) : Bool := l.all (fun s => decide ((s.size : Int) ≤ 60))
theorem shortL_iff (l : List ByteArray) : shortL l = true ↔ ∀ s ∈ l, s.size ≤ 60 := by
  unfold shortL
  rw [List.all_eq_true]
  exact ⟨fun h s hs => by have := of_decide_eq_true (h s hs); omega, fun h s hs => decide_eq_true (by have := h s hs; omega)⟩
theorem shortL_cons (s : ByteArray) (l : List ByteArray) : shortL (s :: l) = (decide ((s.size : Int) ≤ 60) && shortL l) := rfl

theorem bext2 (s : ByteArray) (i a b : Nat) (hb : i + b ≤ s.size) : (s.extract i s.size).extract a b = s.extract (i + a) (i + b) := by
  refine bytesOf_inj ?_
  rw [bytesOf_extract, bytesOf_extract, bytesOf_extract]
  have h := size_eq s
  rw [List.drop_take, List.drop_drop, List.take_take]
  congr 1
  omega
theorem bext_size (s : ByteArray) (a b : Nat) (hb : b ≤ s.size) : (s.extract a b).size = b - a := by
  rw [size_eq, bytesOf_extract]
  have h := size_eq s
  simp only [List.length_take, List.length_drop]
  omega
theorem bt_ext (s : ByteArray) (i : Nat) (h : i < s.size) : bt (s.extract i s.size) 0 = bt s (i : Int) := by
  rw [bt_getD, bt_getD, bytesOf_extract]
  have h1 := size_eq s
  simp only [List.getD_eq_getElem?_getD, Int.toNat_zero, Int.toNat_natCast]
  rw [List.getElem?_take_of_lt (by omega), List.getElem?_drop]
  simp
theorem bext_full (s : ByteArray) : s.extract 0 s.size = s := bytesOf_inj (by rw [bytesOf_extract]; have h := size_eq s; simp only [List.drop_zero, Nat.sub_zero]; rw [List.take_of_length_le (by omega)])
theorem bt_bd (s : ByteArray) (i : Int) : 0 ≤ bt s i ∧ bt s i < 256 := by
  rw [bt_getD, List.getD_eq_getElem?_getD]
  rcases h : (bytesOf s)[i.toNat]? with _ | x
  · simp
  · exact bytesOf_range (List.mem_of_getElem? h)
theorem emptyB {s : ByteArray} (h : s.size = 0) : s = (⟨#[]⟩ : ByteArray) := by
  refine bytesOf_inj ?_
  rw [bytesOf_empty]
  exact List.eq_nil_of_length_eq_zero (by rw [← size_eq]; exact h)
/-! ### the frames of a text, one after the other -/
def feedF : Nat → ByteArray → ByteArray × Bool × List ByteArray
  | 0, _ => ((⟨#[]⟩ : ByteArray), false, [])
  | d + 1, r =>
    if r.size = 0 then ((⟨#[]⟩ : ByteArray), false, [])
    else if bt r 0 > 60 then ((⟨#[]⟩ : ByteArray), true, [])
    else if (r.size : Int) < 3 + bt r 0 then (r, false, [])
    else if frameT (r.extract 3 (3 + (bt r 0).toNat)) = r.extract 0 (3 + (bt r 0).toNat) then
      ((feedF d (r.extract (3 + (bt r 0).toNat) r.size)).1, (feedF d (r.extract (3 + (bt r 0).toNat) r.size)).2.1, r.extract 3 (3 + (bt r 0).toNat) :: (feedF d (r.extract (3 + (bt r 0).toNat) r.size)).2.2)
    else ((⟨#[]⟩ : ByteArray), true, [])
theorem feedF_len (d : Nat) : ∀ r : ByteArray, r.size ≤ d → (feedF d r).2.2.length ≤ r.size := by
  induction d with
  | zero => intro r _; simp [feedF]
  | succ d ih =>
    intro r hr
    unfold feedF
    split
    · simp
    · split
      · simp
      · split
        · simp
        · split
          · have h1 := bt_bd r 0
            have h2 := bext_size r (3 + (bt r 0).toNat) r.size (by omega)
            have := ih (r.extract (3 + (bt r 0).toNat) r.size) (by omega)
            simp only [List.length_cons]
            omega
          · simp
theorem half_frame (r : ByteArray) (n : Nat) (hn : bt r 0 = n) (hr : 3 + n ≤ r.size) : ((sumT (r.extract 3 (3 + n))).extract 2 (sumT (r.extract 3 (3 + n))).size).toList = (r.extract 1 3).toList ↔ frameT (r.extract 3 (3 + n)) = r.extract 0 (3 + n) := by
  rw [toList_iff]
  have hs := size_eq r
  have hz : (r.extract 3 (3 + n)).size = n := by rw [bext_size _ _ _ (by omega)]; omega
  have hx : bytesOf (r.extract 1 3) = ((bytesOf r).drop 1).take 2 := by rw [bytesOf_extract]
  have hy : bytesOf (r.extract 0 (3 + n)) = (bytesOf r).take (3 + n) := by rw [bytesOf_extract]; simp
  have hw : bytesOf (r.extract 3 (3 + n)) = ((bytesOf r).drop 3).take n := by rw [bytesOf_extract]; congr 1; omega
  have hf : bytesOf (frameT (r.extract 3 (3 + n))) = (n : Int) :: (halfL (r.extract 3 (3 + n)) ++ ((bytesOf r).drop 3).take n) := by
    unfold frameT
    rw [bytesOf_app, bytesOf_str, hz, hw]
    · rfl
    · intro x hx
      simp only [halfL, List.mem_cons, List.not_mem_nil, or_false] at hx
      have := bt_bd r 0
      rcases hx with rfl | rfl | rfl <;> omega
  have hg := half_bytes (r.extract 3 (3 + n))
  rw [bt_getD] at hn
  constructor
  · intro h
    have h1 : halfL (r.extract 3 (3 + n)) = ((bytesOf r).drop 1).take 2 := by rw [← hg, h, hx]
    refine bytesOf_inj ?_
    rw [hf, h1, hy]
    generalize bytesOf r = L at *
    match L, hs, hn with
    | [], hs, _ => simp only [List.length_nil] at hs; omega
    | [_], hs, _ => simp only [List.length_cons, List.length_nil] at hs; omega
    | [_, _], hs, _ => simp only [List.length_cons, List.length_nil] at hs; omega
    | a :: b :: c :: L, hs, hn =>
      simp at hn
      rw [show 3 + n = n + 1 + 1 + 1 by omega]
      simp [hn]
  · intro h
    have h1 := congrArg bytesOf h
    rw [hf, hy] at h1
    refine bytesOf_inj ?_
    rw [hg, hx]
    generalize bytesOf r = L at *
    match L, hs, hn with
    | [], hs, _ => simp only [List.length_nil] at hs; omega
    | [_], hs, _ => simp only [List.length_cons, List.length_nil] at hs; omega
    | [_, _], hs, _ => simp only [List.length_cons, List.length_nil] at hs; omega
    | a :: b :: c :: L, hs, hn =>
      have e3 : List.take (3 + n) (a :: b :: c :: L) = a :: b :: c :: L.take n := by rw [show 3 + n = n + 1 + 1 + 1 by omega]; rfl
      rw [e3] at h1
      unfold halfL at h1 ⊢
      simp only [List.take_succ_cons, List.cons_append, List.nil_append, List.cons.injEq] at h1
      rw [h1.2.1, h1.2.2.1]
      rfl
theorem toList_nil : (⟨#[]⟩ : ByteArray).toList = ([] : List UInt8) := by rw [Lib.toList_data]
def feedTop (h : ByteArray) (c : Bool) (a : ByteArray) : ByteArray × Bool × List ByteArray :=
  if c = true ∨ h.size + a.size > 20000 then (h, c, []) else feedF (h.size + a.size) (h ++ a)
theorem feedTop_len (h : ByteArray) (c : Bool) (a : ByteArray) : (feedTop h c a).2.2.length ≤ 20000 := by
  unfold feedTop
  split
  · simp
  · have := feedF_len (h.size + a.size) (h ++ a) (by rw [size_app]; omega)
    rw [size_app] at this
    omega

theorem implFeed_l0 (d : Nat) : ∀ (r : ByteArray) (acc : List ByteArray), r.size ≤ d → r.size ≤ 20000 → acc.length + r.size ≤ 40000 → Gets (fun k => impl_FeedReader.l0 k r acc) (· = ((feedF d r).1, (feedF d r).2.1, acc ++ (feedF d r).2.2)) := by
  induction d with
  | zero =>
    intro r acc hd _ _
    refine Gets.step (fun k => impl_FeedReader.l0.eq_2 ..) (Gets.pos (by rw [emptyB (s := r) (by omega)]; exact toList_nil) (Gets.ret ?_))
    rw [emptyB (s := r) (by omega)]; simp [feedF]
  | succ d ih =>
    intro r acc hd h2 h3
    refine Gets.step (fun k => impl_FeedReader.l0.eq_2 ..) ?_
    unfold feedF
    by_cases h0 : r.size = 0
    · refine Gets.pos (by rw [emptyB h0]; exact toList_nil) (Gets.ret ?_)
      rw [if_pos h0, emptyB h0]; simp
    · have hne : ¬ r.toList = ([] : List UInt8) := by
        intro h
        have := (toList_iff r (⟨#[]⟩ : ByteArray)).1 (by rw [h]; exact toList_nil.symm)
        exact h0 (by rw [this]; rfl)
      rw [if_neg h0]
      have hb := bt_bd r 0
      refine Gets.neg hne (Gets.pos (by omega) ?_)
      rw [wrapId (x := bt r 0) (by omega) (by omega), wrapId (by omega) (by omega)]
      by_cases h5 : bt r 0 > 60
      · refine Gets.pos h5 (Gets.ret ?_)
        rw [if_pos h5]; simp
      · rw [if_neg h5]
        refine Gets.neg h5 ?_
        by_cases h6 : (r.size : Int) < 3 + bt r 0
        · refine Gets.pos h6 (Gets.ret ?_)
          rw [if_pos h6]; simp
        · rw [if_neg h6]
          obtain ⟨n, hn⟩ : ∃ n : Nat, bt r 0 = n := ⟨(bt r 0).toNat, by omega⟩
          have e1 : (3 + bt r 0).toNat = 3 + n := by omega
          have e2 : (bt r 0).toNat = n := by omega
          refine Gets.neg h6 (Gets.pos (by omega) (Gets.pos (by omega) ?_))
          rw [e1, e2]
          have hz : (r.extract 3 (3 + n)).size = n := by rw [bext_size _ _ _ (by omega)]; omega
          refine Gets.bindE (implHalf _ (by omega)).ev (Gets.pos (by decide) (Gets.pos (by omega) ?_))
          have hh := half_frame r n hn (by omega)
          by_cases h7 : frameT (r.extract 3 (3 + n)) = r.extract 0 (3 + n)
          · refine Gets.pos (hh.2 h7) (Gets.pos (by omega) (Gets.pos (by omega) ?_))
            rw [if_pos h7]
            have hw := bext_size r (3 + n) r.size (by omega)
            refine (ih (r.extract (3 + n) r.size) _ (by omega) (by omega) (by simp; omega)).mono (fun x hx => ?_)
            rw [hx]; simp
          · refine Gets.neg (fun h => h7 (hh.1 h)) (Gets.ret ?_)
            rw [if_neg h7]; simp
theorem implFeed (h : ByteArray) (c : Bool) (a : ByteArray) (hh : h.size ≤ 1048576) (ha : a.size ≤ 1048576) : Gets (fun k => impl_FeedReader.f k h c a) (· = feedTop h c a) := by
  unfold impl_FeedReader.f feedTop
  refine Gets.ite (fun hc => ?_) (fun hc => ?_)
  · rw [if_pos (Or.inl hc)]
    exact Gets.step (fun k => impl_FeedReader.j0.eq_2 ..) (Gets.pos rfl (Gets.ret rfl))
  · rw [wrapId (by omega) (by omega)]
    refine Gets.step (fun k => impl_FeedReader.j0.eq_2 ..) (Gets.ite (fun hd => ?_) (fun hd => ?_))
    · have := of_decide_eq_true hd
      rw [if_pos (Or.inr (by omega))]
      exact Gets.ret rfl
    · have hd : ¬ (h.size : Int) + a.size > 20000 := fun h1 => hd (decide_eq_true h1)
      rw [if_neg (by rintro (h1 | h1); exact hc h1; omega)]
      refine Gets.pos (by omega) ?_
      exact (implFeed_l0 (h.size + a.size) (h ++ a) [] (by rw [size_app]; omega) (by rw [size_app]; omega) (by rw [size_app]; simp; omega)).mono (fun x hx => by rw [hx]; simp)

theorem specSum_l1 (s : ByteArray) (i : Int) (Q : Int → Prop) (d : Nat) : ∀ x j : Int, 0 ≤ x → x < 4294967296 → 0 ≤ j → 8 - j = d → Gets (fun k => spec_SumMore.l0 k (hfs d x) s (wrap64 (i + 1))) Q → Gets (fun k => spec_SumMore.l1 k x s i j) Q := by
  induction d with
  | zero =>
    intro x j h0 h1 h2 hd h
    refine Gets.step (fun k => spec_SumMore.l1.eq_2 ..) ?_
    exact Gets.neg (by omega) h
  | succ d ih =>
    intro x j h0 h1 h2 hd h
    refine Gets.step (fun k => spec_SumMore.l1.eq_2 ..) ?_
    refine Gets.pos (by omega) ?_
    rw [tmod_nn h0, tdiv_nn h0, show x / 2 % 4294967296 = x / 2 by omega, wrapId (by omega) (by omega)]
    have hb := hf_bd h0 h1
    have hh : hfs (d + 1) x = hfs d (hf x) := rfl
    rw [hh] at h
    refine Gets.ite (fun hc => ?_) (fun hc => ?_)
    · have e : hf x = Go.bits .xor .u32 (x / 2) 3558460437 := by unfold hf; rw [if_pos hc]
      rw [e] at h hb
      exact ih _ _ hb.1 hb.2 (by omega) (by omega) h
    · have e : hf x = x / 2 := by unfold hf; rw [if_neg hc]
      rw [e] at h hb
      exact ih _ _ hb.1 hb.2 (by omega) (by omega) h
theorem specSum_l0 (s : ByteArray) (hs : s.size ≤ 140737488351232) (d : Nat) : ∀ x i : Int, 0 ≤ x → x < 4294967296 → 0 ≤ i → (s.size : Int) - i = d → Gets (fun k => spec_SumMore.l0 k x s i) (· = crcL x ((bytesOf s).drop i.toNat)) := by
  induction d with
  | zero =>
    intro x i h0 h1 h2 hd
    refine Gets.step (fun k => spec_SumMore.l0.eq_2 ..) ?_
    refine Gets.neg (by omega) (Gets.ret ?_)
    rw [List.drop_of_length_le (by rw [bytesOf_length]; omega)]
    rfl
  | succ d ih =>
    intro x i h0 h1 h2 hd
    refine Gets.step (fun k => spec_SumMore.l0.eq_2 ..) ?_
    refine Gets.pos (by omega) (Gets.pos h2 ?_)
    have hr := bt_range s i
    rw [show bt s i % 4294967296 = bt s i by omega]
    refine specSum_l1 s i _ 8 _ 0 (xor_bd _ _).1 (xor_bd _ _).2 (by omega) (by omega) ?_
    rw [wrapId (by omega) (by omega), bytes_drop s i h2 (by omega)]
    have hb := hfs_bd 8 (xor_bd x (bt s i)).1 (xor_bd x (bt s i)).2
    exact ih _ (i + 1) hb.1 hb.2 (by omega) (by omega)
theorem specSumMore (x : Int) (s : ByteArray) (h0 : 0 ≤ x) (h1 : x < 4294967296) (hs : s.size ≤ 140737488351232) : Gets (fun k => spec_SumMore.f k x s) (· = crcL x (bytesOf s)) := by
  unfold spec_SumMore.f
  exact specSum_l0 s hs s.size x 0 h0 h1 (by omega) (by omega)

theorem specSumOf (s : ByteArray) (hs : s.size ≤ 140737488351232) : Gets (fun k => spec_SumOf.f k s) (· = crcL 4294967295 (bytesOf s)) := by
  unfold spec_SumOf.f
  exact Gets.bind (specSumMore _ s (by omega) (by omega) hs) (fun a ha => Gets.ret ha)

theorem specFrame (s : ByteArray) (hs : s.size ≤ 140737488351232) : Gets (fun k => spec_FrameOf.f k s) (fun r => (s.size ≤ 60 → r = (frameT s, true)) ∧ (60 < s.size → r = ((⟨#[]⟩ : ByteArray), false))) := by
  unfold spec_FrameOf.f
  refine Gets.ite (fun h => Gets.ret ⟨fun h1 => by omega, fun _ => rfl⟩) (fun h => ?_)
  refine Gets.bindE (specSumOf s hs).ev ?_
  have hb := crcL_bd (bytesOf s) (x := 4294967295) (by omega) (by omega)
  have e : [(s.size : Int) % 256, (Int.tdiv (Int.tmod (crcL 4294967295 (bytesOf s)) 65536) 256) % 4294967296 % 256, (Int.tmod (Int.tmod (crcL 4294967295 (bytesOf s)) 65536) 256) % 256] = (s.size : Int) :: halfL s := by
    rw [tmod_nn hb.1, tdiv_nn (by omega), tmod_nn (by omega)]
    simp only [halfL, List.cons.injEq, and_true]
    omega
  rw [e]
  simp only [Option.bind_some]
  exact Gets.pos (by rw [strOfNums_size]; simp [halfL]; omega) (Gets.ret ⟨fun _ => rfl, fun h2 => by omega⟩)

theorem specFeed_l0 (d : Nat) (s : ByteArray) (hs : s.size ≤ 20000) : ∀ (i : Nat) (acc : List ByteArray), i ≤ s.size → s.size - i ≤ d → acc.length + (s.size - i) ≤ 40000 → Gets (fun k => spec_FeedReader.l0 k acc s (i : Int)) (· = ((feedF d (s.extract i s.size)).1, (feedF d (s.extract i s.size)).2.1, acc ++ (feedF d (s.extract i s.size)).2.2)) := by
  induction d with
  | zero =>
    intro i acc hi hd _
    refine Gets.step (fun k => spec_FeedReader.l0.eq_2 ..) (Gets.neg (by omega) (Gets.ret ?_))
    simp [feedF]
  | succ d ih =>
    intro i acc hi hd h3
    refine Gets.step (fun k => spec_FeedReader.l0.eq_2 ..) ?_
    unfold feedF
    have hz := bext_size s i s.size (by omega)
    by_cases h0 : i = s.size
    · refine Gets.neg (by omega) (Gets.ret ?_)
      rw [if_pos (show (s.extract i s.size).size = 0 by omega)]; simp
    · rw [if_neg (show ¬ (s.extract i s.size).size = 0 by omega)]
      have hb := bt_bd s i
      have he := bt_ext s i (by omega)
      rw [he, hz]
      refine Gets.pos (by omega) (Gets.pos (by omega) ?_)
      rw [wrapId (x := bt s i) (by omega) (by omega)]
      by_cases h5 : bt s i > 60
      · refine Gets.pos h5 (Gets.ret ?_)
        rw [if_pos h5]; simp
      · rw [if_neg h5]
        refine Gets.neg h5 ?_
        rw [wrapId (x := (s.size : Int) - i) (by omega) (by omega), wrapId (x := bt s i + 3) (by omega) (by omega)]
        by_cases h6 : (s.size : Int) - i < bt s i + 3
        · refine Gets.pos h6 (Gets.pos (by omega) (Gets.ret ?_))
          rw [if_pos (show ((s.size - i : Nat) : Int) < 3 + bt s i by omega)]; simp
        · rw [if_neg (show ¬ ((s.size - i : Nat) : Int) < 3 + bt s i by omega)]
          obtain ⟨n, hn⟩ : ∃ n : Nat, bt s i = n := ⟨(bt s i).toNat, by omega⟩
          rw [wrapId (x := (i : Int) + 3) (by omega) (by omega), wrapId (x := (i : Int) + 3 + bt s i) (by omega) (by omega), wrapId (x := (i : Int) + bt s i) (by omega) (by omega), wrapId (by omega) (by omega)]
          have e1 : ((i : Int) + 3).toNat = i + 3 := by omega
          have e2 : (bt s i).toNat = n := by omega
          have e3 : ((i : Int) + 3 + bt s i).toNat = i + (3 + n) := by omega
          have e4 : (i : Int) + bt s i + 3 = ((i + (3 + n) : Nat) : Int) := by omega
          refine Gets.neg h6 (Gets.pos (by omega) (Gets.pos (by omega) (Gets.pos (by omega) ?_)))
          rw [e1, e2, e3, e4]
          simp only [Int.toNat_natCast]
          have e0 := bext2 s i 0 (3 + n) (by omega)
          rw [Nat.add_zero] at e0
          rw [bext2 s i 3 (3 + n) (by omega), e0]
          have hw : (s.extract (i + 3) (i + (3 + n))).size = n := by rw [bext_size _ _ _ (by omega)]; omega
          refine Gets.bind (specFrame _ (by omega)) (fun t ht => ?_)
          rw [ht.1 (by omega)]
          refine Gets.pos (by omega) ?_
          by_cases h7 : frameT (s.extract (i + 3) (i + (3 + n))) = s.extract i (i + (3 + n))
          · refine Gets.pos (by rw [h7]) (Gets.pos (by omega) ?_)
            rw [if_pos h7]
            have e5 : (s.extract i s.size).extract (3 + n) (s.size - i) = s.extract (i + (3 + n)) s.size := by
              rw [bext2 s i (3 + n) (s.size - i) (by omega), show i + (s.size - i) = s.size by omega]
            rw [e5]
            refine (ih (i + (3 + n)) _ (by omega) (by omega) (by simp; omega)).mono (fun x hx => ?_)
            rw [hx]; simp
          · refine Gets.neg (fun h => h7 ((toList_iff _ _).1 h)) (Gets.ret ?_)
            rw [if_neg h7]; simp
theorem specFeed_j0 (h : ByteArray) (c : Bool) (a : ByteArray) (hc : ¬ c = true) (b : Bool) (hb : b = true ↔ h.size + a.size > 20000) : Gets (fun k => spec_FeedReader.j0 k a [] b h c) (· = feedTop h c a) := by
  unfold feedTop
  refine Gets.step (fun k => spec_FeedReader.j0.eq_2 ..) (Gets.ite (fun hd => ?_) (fun hd => ?_))
  · rw [if_pos (Or.inr (hb.1 hd))]
    exact Gets.ret rfl
  · have h9 : ¬ h.size + a.size > 20000 := fun h1 => hd (hb.2 h1)
    rw [if_neg (by rintro (h1 | h1); exact hc h1; omega)]
    refine Gets.pos (by omega) ?_
    have e := bext_full (h ++ a)
    have hz : (h ++ a).size = h.size + a.size := size_app h a
    refine (specFeed_l0 (h.size + a.size) (h ++ a) (by omega) 0 [] (by omega) (by omega) (by simp; omega)).mono (fun x hx => ?_)
    rw [hx, e]; simp
theorem specFeed (h : ByteArray) (c : Bool) (a : ByteArray) (hh : h.size ≤ 1048576) (ha : a.size ≤ 1048576) : Gets (fun k => spec_FeedReader.f k h c a) (· = feedTop h c a) := by
  unfold spec_FeedReader.f
  simp only [Option.bind_some]
  refine Gets.ite (fun hc => ?_) (fun hc => ?_)
  · unfold feedTop
    rw [if_pos (Or.inl hc)]
    exact Gets.step (fun k => spec_FeedReader.j0.eq_2 ..) (Gets.pos rfl (Gets.ret rfl))
  · refine Gets.ite (fun h1 => specFeed_j0 h c a hc true (by simp; omega)) (fun h1 => Gets.ite (fun h2 => specFeed_j0 h c a hc true (by simp; omega)) (fun h2 => ?_))
    rw [wrapId (by omega) (by omega)]
    exact specFeed_j0 h c a hc _ (by rw [decide_eq_true_iff]; omega)

theorem eqStringS_l0 (a b : List ByteArray) (ha : a.length ≤ 35184372088832) (hab : a.length = b.length) (d : Nat) : ∀ i : Nat, a.length - i = d → i ≤ a.length → Gets (fun k => laws_eqStringS.l0 k a b (i : Int)) (fun r => r = true ↔ a.drop i = b.drop i) := by
  induction d with
  | zero =>
    intro i hd hi
    refine Gets.step (fun k => laws_eqStringS.l0.eq_2 ..) (Gets.neg (by omega) (Gets.ret ?_))
    rw [List.drop_of_length_le (by omega), List.drop_of_length_le (by omega)]
    simp
  | succ d ih =>
    intro i hd hi
    refine Gets.step (fun k => laws_eqStringS.l0.eq_2 ..) (Gets.pos (by omega) (Gets.pos (by omega) (Gets.pos (by omega) ?_)))
    have e1 : rdOf ByteArray.empty a (i : Int) = a[i] := rdS_get (by omega)
    have e2 : rdOf ByteArray.empty b (i : Int) = b[i] := rdS_get (by omega)
    simp only [e1, e2]
    rw [wrapId (by omega) (by omega), drop_at a i (by omega), drop_at b i (by omega)]
    refine Gets.ite (fun h => ?_) (fun h => Gets.ret ?_)
    · rw [show ((i : Int) + 1) = ((i + 1 : Nat) : Int) by omega]
      refine (ih (i + 1) (by omega) (by omega)).mono (fun r hr => ?_)
      rw [hr]
      simp only [List.cons.injEq, (toList_iff _ _).1 h, true_and]
    · have hne : ¬ a[i] = b[i] := fun e => h (by rw [e])
      simp only [List.cons.injEq, hne, false_and, Bool.false_eq_true]
theorem eqStringS (a b : List ByteArray) (ha : a.length ≤ 35184372088832) : Gets (fun k => laws_eqStringS.f k a b) (fun r => r = true ↔ a = b) := by
  unfold laws_eqStringS.f
  refine Gets.ite (fun h => ?_) (fun h => Gets.ret ?_)
  · exact eqStringS_l0 a b ha (by omega) a.length 0 (by omega) (by omega)
  · simp only [Bool.false_eq_true, false_iff]
    rintro rfl
    exact h rfl
theorem eqStringS_true (a : List ByteArray) (ha : a.length ≤ 35184372088832) : Gets (fun k => laws_eqStringS.f k a a) (fun r => r = true) := (eqStringS a a ha).mono (fun r hr => hr.2 rfl)

theorem markText_l0 (d : Nat) : ∀ (n : Nat) (s : ByteArray), n < 10 ^ d → s.size + d ≤ 1000 → n ≤ 9000000000 → ∃ t, Ev (fun k => laws_markText.l0 k (n : Int) s) t := by
  induction d with
  | zero =>
    intro n s h hs hn
    have e : Gets (fun k => laws_markText.l0 k (n : Int) s) (fun _ => True) := Gets.step (fun k => laws_markText.l0.eq_2 ..) (Gets.neg (by omega) (Gets.pos (by omega) (Gets.ret trivial)))
    obtain ⟨t, ht, _⟩ := e
    exact ⟨t, ht⟩
  | succ d ih =>
    intro n s h hs hn
    have e : Gets (fun k => laws_markText.l0 k (n : Int) s) (fun _ => True) := by
      refine Gets.step (fun k => laws_markText.l0.eq_2 ..) (Gets.ite (fun h1 => ?_) (fun h1 => Gets.pos (by omega) (Gets.ret trivial)))
      simp only [Option.bind_some]
      refine Gets.pos (by rw [strOfNums_size]; simp; omega) ?_
      rw [tdiv_nn (by omega), wrapId (x := (n : Int) / 10) (by omega) (by omega), show (n : Int) / 10 = ((n / 10 : Nat) : Int) by omega]
      obtain ⟨t, ht⟩ := ih (n / 10) (strOfNums [(wrap64 (48 + (Int.tmod n 10))) % 256] ++ s) (by
        have : (10 : Nat) ^ (d + 1) = 10 ^ d * 10 := Nat.pow_succ ..
        rw [Nat.div_lt_iff_lt_mul (by omega)]; omega) (by simp [strOfNums_size]; omega) (by omega)
      exact Ev.gets ht trivial
    obtain ⟨t, ht, _⟩ := e
    exact ⟨t, ht⟩
theorem markText_some (n : Int) (h0 : 0 ≤ n) (h1 : n ≤ 9000000000) : ∃ t, Ev (fun k => laws_markText.f k n) t := by
  by_cases h : n ≤ 0
  · exact ⟨_, (Gets.pos (f := fun _ => some (⟨#[109, 48]⟩ : ByteArray)) (g := fun k => laws_markText.l0 k n (⟨#[]⟩ : ByteArray)) (Q := (· = (⟨#[109, 48]⟩ : ByteArray))) h (Gets.ret rfl)).ev⟩
  · obtain ⟨m, rfl⟩ := Int.eq_ofNat_of_zero_le h0
    obtain ⟨t, ht⟩ := markText_l0 10 m (⟨#[]⟩ : ByteArray) (by have : (10 : Nat) ^ 10 = 10000000000 := by decide
                                                               omega) (by decide) (by omega)
    exact ⟨t, (Gets.neg (f := fun _ => some (⟨#[109, 48]⟩ : ByteArray)) h (Ev.gets (Q := (· = t)) ht rfl)).ev⟩
/-- The text that marks n. -/
noncomputable def mtx (n : Int) : ByteArray := if h : 0 ≤ n ∧ n ≤ 9000000000 then Classical.choose (markText_some n h.1 h.2) else ⟨#[]⟩
theorem markText (n : Int) (h0 : 0 ≤ n) (h1 : n ≤ 9000000000) : Ev (fun k => laws_markText.f k n) (mtx n) := by
  unfold mtx
  rw [dif_pos ⟨h0, h1⟩]
  exact Classical.choose_spec (markText_some n h0 h1)

noncomputable def marksS (k : Int) (n : Nat) : List ByteArray := (List.range n).map (fun (i : Nat) => mtx (k + (i : Int)))
theorem marksS_length (k : Int) (n : Nat) : (marksS k n).length = n := by simp [marksS]
theorem marksS_get (k : Int) (n i : Nat) (h : i < n) : (marksS k n)[i]'(by rw [marksS_length]; exact h) = mtx (k + i) := by simp [marksS]
theorem markStringS_l0 (n : Nat) (m : Int) (hn : n ≤ 9000000) (hm : 0 ≤ m ∧ m ≤ 900000000) (d : Nat) : ∀ (i : Nat) (l : List ByteArray), n - i = d → i ≤ n → l.length = n → l.take i = marksS m i → Gets (fun k => laws_markStringS.l0 k l (m + i) (i : Int)) (· = (m + n, marksS m n)) := by
  induction d with
  | zero =>
    intro i l hd hi hl ht
    refine Gets.step (fun k => laws_markStringS.l0.eq_2 ..) (Gets.neg (by omega) (Gets.ret ?_))
    obtain rfl : i = n := by omega
    rw [List.take_of_length_le (by omega)] at ht
    rw [ht]
  | succ d ih =>
    intro i l hd hi hl ht
    refine Gets.step (fun k => laws_markStringS.l0.eq_2 ..) (Gets.pos (by omega) ?_)
    refine Gets.bindE (markText _ (by omega) (by omega)) (Gets.pos (by omega) ?_)
    rw [wrapId (by omega) (by omega), wrapId (by omega) (by omega)]
    simp only [Int.toNat_natCast]
    rw [show ((i : Int) + 1) = ((i + 1 : Nat) : Int) by omega, show m + (i : Int) + 1 = m + ((i + 1 : Nat) : Int) by omega]
    refine ih (i + 1) _ (by omega) (by omega) (by simpa using hl) ?_
    have hlt : i < (l.set i (mtx (m + i))).length := by rw [List.length_set]; omega
    rw [List.take_succ_eq_append_getElem hlt, List.getElem_set_self, List.take_set_of_le (by omega), ht]
    simp [marksS, List.range_succ]
theorem markStringS (l : List ByteArray) (m : Int) (hn : l.length ≤ 9000000) (hm : 0 ≤ m ∧ m ≤ 900000000) : Gets (fun k => laws_markStringS.f k l m) (· = (m + l.length, marksS m l.length)) := by
  unfold laws_markStringS.f
  have h := markStringS_l0 l.length m hn hm l.length 0 l (by omega) (by omega) rfl (by simp [marksS])
  simpa using h
theorem heldStringS_l0 (n : Nat) (m : Int) (hn : n ≤ 9000000) (hm : 0 ≤ m ∧ m ≤ 900000000) (d : Nat) : ∀ (i : Nat), n - i = d → i ≤ n → Gets (fun k => laws_heldStringS.l0 k (marksS m n) (m + i) (i : Int)) (· = m + n) := by
  induction d with
  | zero =>
    intro i hd hi
    refine Gets.step (fun k => laws_heldStringS.l0.eq_2 ..) (Gets.neg (by rw [marksS_length]; omega) (Gets.ret ?_))
    rw [show i = n by omega]
  | succ d ih =>
    intro i hd hi
    have e : rdOf ByteArray.empty (marksS m n) (i : Int) = mtx (m + i) := by
      rw [rdS_get (by rw [marksS_length]; omega)]
      exact marksS_get m n i (by omega)
    refine Gets.step (fun k => laws_heldStringS.l0.eq_2 ..) (Gets.pos (by rw [marksS_length]; omega) (Gets.pos (by omega) ?_))
    simp only [e]
    rw [wrapId (by omega) (by omega), wrapId (by omega) (by omega)]
    refine Gets.bindE (markText _ (by omega) (by omega)) (Gets.pos rfl ?_)
    rw [show ((i : Int) + 1) = ((i + 1 : Nat) : Int) by omega, show m + (i : Int) + 1 = m + ((i + 1 : Nat) : Int) by omega]
    exact ih (i + 1) (by omega) (by omega)
theorem heldStringS (m : Int) (n : Nat) (hn : n ≤ 9000000) (hm : 0 ≤ m ∧ m ≤ 900000000) : Gets (fun k => laws_heldStringS.f k (marksS m n) m) (· = m + n) := by
  unfold laws_heldStringS.f
  have h := heldStringS_l0 n m hn hm n 0 (by omega) (by omega)
  simpa using h

theorem eqReader_true (h : ByteArray) (c : Bool) : laws_eqReader.f h c h c = some true := by
  unfold laws_eqReader.f; simp
theorem toReader (h : ByteArray) (c : Bool) : laws_toReader.f h c = some (h, c) := rfl
theorem FnExactFeedReader : Stat.FnExactFeedReader := by
  intro h c a hh ha
  refine Gets.rounds ?_
  unfold laws_FnExactFeedReader.f
  refine Gets.ite (fun _ => Gets.ret rfl) (fun h1 => ?_)
  unfold laws_szReader.f
  have ha2 : a.size ≤ 1048576 := by omega
  by_cases h2 : h.size ≤ 1048576
  · rw [wrapId (by omega) (by omega), if_neg (by omega)]
    simp only [Option.bind_some, toReader]
    refine Gets.neg (by omega) (Gets.bindE (specFeed h c a h2 ha2).ev (Gets.bindE (implFeed h c a h2 ha2).ev ?_))
    have hl := feedTop_len h c a
    generalize hF : feedTop h c a = F at hl ⊢
    rw [eqReader_true]
    simp only [Option.bind_some]
    refine Gets.pos trivial (Gets.bind (eqStringS_true _ (by omega)) (fun t ht => ?_))
    rw [ht]
    refine Gets.step (fun k => laws_FnExactFeedReader.j0.eq_2 ..) (Gets.neg (by simp) ?_)
    refine Gets.bindE (markStringS F.2.2 1 (by omega) (by omega)).ev (Gets.bindE (heldStringS 1 _ (by omega) (by omega)).ev ?_)
    refine Gets.neg (by omega) (Gets.pos rfl ?_)
    simp only [Option.bind_some, toReader]
    refine Gets.bindE (implFeed h c a h2 ha2).ev ?_
    rw [hF, eqReader_true]
    simp only [Option.bind_some]
    refine Gets.pos trivial (Gets.bind (eqStringS_true _ (by omega)) (fun t ht => ?_))
    rw [ht]
    refine Gets.step (fun k => laws_FnExactFeedReader.j1.eq_2 ..) (Gets.neg (by simp) ?_)
    refine Gets.bindE (heldStringS 1 _ (by omega) (by omega)).ev ?_
    exact Gets.neg (by omega) (Gets.pos rfl (Gets.ret rfl))
  · by_cases h3 : wrap64 (1048576 - (h.size : Int)) < 0
    · rw [if_pos h3]
      simp only [Option.bind_some]
      exact Gets.pos (by decide) (Gets.ret rfl)
    · exfalso
      have hm : maxLen ≤ 9223372036854775807 := by decide
      rw [wrapId (by omega) (by omega)] at h3
      omega

end Go.Proofs.Ytlnmiafahjddhab.Pure
