/- For every code, a sealed text with one byte turned is not unsealed, and sums go on. -/
import Derived.Test.YtfakkehopmihoaaStatFnTurned
import Derived.Lib.Strings
set_option linter.unusedVariables false
set_option linter.unusedSimpArgs false
namespace Go.Proofs.Ytfakkehopmihoaa.Pure
open Go.RowKit Go.Proofs.Ytfakkehopmihoaa.PFnTurned Go.Proofs.YtfakkehopmihoaaW.PrintWords Go.Proofs.YtfakkehopmihoaaW.PrintLast

/-! ### plain words: from some number of rounds on -/
def Gets {α : Type} (f : Nat → Option α) (Q : α → Prop) : Prop := ∃ r, Ev f r ∧ Q r
theorem Gets.ret {α : Type} {Q : α → Prop} {r : α} (h : Q r) : Gets (fun _ => some r) Q := ⟨r, Ev.now r, h⟩
theorem Gets.none {α : Type} {Q : α → Prop} (h : False) : Gets (fun _ => (Option.none : Option α)) Q := h.elim
theorem Gets.step {α : Type} {g f : Nat → Option α} {Q : α → Prop} (h : ∀ k, g (k + 1) = f k) (k : Gets f Q) : Gets g Q := by
  obtain ⟨r, hr, hq⟩ := k
  exact ⟨r, Ev.step h hr, hq⟩
theorem Ev.ite {α : Type} {c : Prop} [Decidable c] {f g : Nat → Option α} {r : α} (h : c → Ev f r) (k : ¬ c → Ev g r) : Ev (fun n => if c then f n else g n) r := by
  by_cases hc : c
  · simp only [hc, if_true]; exact h hc
  · simp only [hc, if_false]; exact k hc
theorem Gets.ite {α : Type} {c : Prop} [Decidable c] {f g : Nat → Option α} {Q : α → Prop} (h : c → Gets f Q) (k : ¬ c → Gets g Q) : Gets (fun n => if c then f n else g n) Q := by
  by_cases hc : c
  · simp only [hc, if_true]; exact h hc
  · simp only [hc, if_false]; exact k hc
theorem Gets.pos {α : Type} {c : Prop} [Decidable c] {f g : Nat → Option α} {Q : α → Prop} (hc : c) (h : Gets f Q) : Gets (fun n => if c then f n else g n) Q := by
  simp only [hc, if_true]; exact h
theorem Gets.neg {α : Type} {c : Prop} [Decidable c] {f g : Nat → Option α} {Q : α → Prop} (hc : ¬ c) (h : Gets g Q) : Gets (fun n => if c then f n else g n) Q := by
  simp only [hc, if_false]; exact h
theorem Gets.bind {α β : Type} {g : Nat → Option α} {f : Nat → α → Option β} {P : α → Prop} {Q : β → Prop} (h : Gets g P) (k : ∀ a, P a → Gets (fun n => f n a) Q) : Gets (fun n => (g n).bind (f n)) Q := by
  obtain ⟨a, ha, hp⟩ := h
  obtain ⟨r, hr, hq⟩ := k a hp
  exact ⟨r, Ev.bind ha hr, hq⟩
theorem Gets.bindE {α β : Type} {g : Nat → Option α} {f : Nat → α → Option β} {a : α} {Q : β → Prop} (h : Ev g a) (k : Gets (fun n => f n a) Q) : Gets (fun n => (g n).bind (f n)) Q := by
  obtain ⟨r, hr, hq⟩ := k
  exact ⟨r, Ev.bind h hr, hq⟩
theorem Gets.mono {α : Type} {f : Nat → Option α} {P Q : α → Prop} (h : Gets f P) (k : ∀ a, P a → Q a) : Gets f Q := by
  obtain ⟨r, hr, hp⟩ := h
  exact ⟨r, hr, k r hp⟩
theorem Gets.rounds {α : Type} {f : Nat → Option α} {r : α} (h : Gets f (· = r)) : ∃ k, f k = some r := by
  obtain ⟨a, ha, rfl⟩ := h
  exact ha.rounds
theorem Gets.ev {α : Type} {f : Nat → Option α} {r : α} (h : Gets f (· = r)) : Ev f r := by
  obtain ⟨a, ha, rfl⟩ := h
  exact ha
theorem Ev.gets {α : Type} {f : Nat → Option α} {r : α} {Q : α → Prop} (h : Ev f r) (hq : Q r) : Gets f Q := ⟨r, h, hq⟩
theorem Gets.same {α : Type} {o : Option α} {Q : α → Prop} {r : α} (h : o = some r) (hq : Q r) : Gets (fun _ => o) Q := by
  subst h; exact Gets.ret hq
theorem wrapId {x : Int} (h0 : -9223372036854775808 ≤ x) (h1 : x ≤ 9223372036854775807) : wrap64 x = x := by
  unfold wrap64; omega
theorem i64_bd {n : Int} (h : (Lit.int .i64 n).wf = true) : -9223372036854775808 ≤ n ∧ n ≤ 9223372036854775807 := by
  have hm : IntKind.i64.min = -9223372036854775808 := rfl
  simp [Lit.wf, hm] at h
  exact h
theorem boolEq {a b : Bool} {P Q : Prop} (ha : a = true ↔ P) (hb : b = true ↔ Q) (h : P ↔ Q) : a = b := by
  rw [Bool.eq_iff_iff, ha, hb, h]
theorem tmod_nn {a b : Int} (h : 0 ≤ a) : Int.tmod a b = a % b := Int.tmod_eq_emod_of_nonneg h
theorem tdiv_nn {a b : Int} (h : 0 ≤ a) : Int.tdiv a b = a / b := Int.tdiv_eq_ediv_of_nonneg h

/-! ### check sums -/
def hf (x : Int) : Int := if x % 2 = 1 then Go.bits .xor .u32 (x / 2) 3558460437 else x / 2
def hfs : Nat → Int → Int
  | 0, x => x
  | n + 1, x => hfs n (hf x)
def crcL (x : Int) (l : List Int) : Int := l.foldl (fun x b => hfs 8 (Go.bits .xor .u32 x b)) x
theorem u32_wrap (n : Int) : IntKind.u32.wrap n = n % 4294967296 := IntKind.wrap_u32 n
theorem xor_bd (a b : Int) : 0 ≤ Go.bits .xor .u32 a b ∧ Go.bits .xor .u32 a b < 4294967296 := by
  unfold Go.bits
  simp only [u32_wrap]
  omega
theorem and1 (x : Int) (h0 : 0 ≤ x) (h1 : x < 4294967296) : Go.bits .and .u32 x 1 = x % 2 :=
  Go.bits_mask .u32 32 (by decide) (fun n a b => by rw [u32_wrap]; omega) 1 (by decide) x h0 (by simpa using h1)
theorem hf_bd {x : Int} (h0 : 0 ≤ x) (h1 : x < 4294967296) : 0 ≤ hf x ∧ hf x < 4294967296 := by
  unfold hf
  split
  · exact xor_bd _ _
  · omega
theorem hfs_bd : ∀ (n : Nat) {x : Int}, 0 ≤ x → x < 4294967296 → 0 ≤ hfs n x ∧ hfs n x < 4294967296
  | 0, x, h0, h1 => ⟨h0, h1⟩
  | n + 1, x, h0, h1 => hfs_bd n (hf_bd h0 h1).1 (hf_bd h0 h1).2
theorem crcL_bd (l : List Int) : ∀ {x : Int}, 0 ≤ x → x < 4294967296 → 0 ≤ crcL x l ∧ crcL x l < 4294967296 := by
  induction l with
  | nil => intro x h0 h1; exact ⟨h0, h1⟩
  | cons b l ih => intro x h0 h1; exact ih (hfs_bd 8 (xor_bd x b).1 (xor_bd x b).2).1 (hfs_bd 8 (xor_bd x b).1 (xor_bd x b).2).2
theorem bytes_drop (s : ByteArray) (i : Int) (h0 : 0 ≤ i) (h1 : i < s.size) : (bytesOf s).drop i.toNat = bt s i :: (bytesOf s).drop (i + 1).toNat := by
  have hl : (bytesOf s).length = s.size := bytesOf_length s
  rw [List.drop_eq_getElem_cons (by omega), show (i + 1).toNat = i.toNat + 1 by omega]
  congr 1
  unfold bt bytesOf
  rw [dif_pos (by omega)]
  simp
  rfl

theorem implSum_l1 (s : ByteArray) (i : Int) (Q : Int → Prop) (d : Nat) : ∀ x j : Int, 0 ≤ x → x < 4294967296 → 0 ≤ j → 8 - j = d → Gets (fun k => impl_SumMore.l0 k (hfs d x) s (wrap64 (i + 1))) Q → Gets (fun k => impl_SumMore.l1 k x s i j) Q := by
  induction d with
  | zero =>
    intro x j h0 h1 h2 hd h
    refine Gets.step (fun k => impl_SumMore.l1.eq_2 ..) ?_
    exact Gets.neg (by omega) h
  | succ d ih =>
    intro x j h0 h1 h2 hd h
    refine Gets.step (fun k => impl_SumMore.l1.eq_2 ..) ?_
    refine Gets.pos (by omega) ?_
    rw [and1 x h0 h1, wrapId (by omega) (by omega)]
    have hb := hf_bd h0 h1
    have hh : hfs (d + 1) x = hfs d (hf x) := rfl
    rw [hh] at h
    refine Gets.ite (fun hc => ?_) (fun hc => ?_)
    · have e : hf x = Go.bits .xor .u32 (x / 2) 3558460437 := by unfold hf; rw [if_pos hc]
      rw [e] at h hb
      exact ih _ _ hb.1 hb.2 (by omega) (by omega) h
    · have e : hf x = x / 2 := by unfold hf; rw [if_neg hc]
      rw [e] at h hb
      exact ih _ _ hb.1 hb.2 (by omega) (by omega) h
theorem implSum_l0 (s : ByteArray) (hs : s.size ≤ 140737488351232) (d : Nat) : ∀ x i : Int, 0 ≤ x → x < 4294967296 → 0 ≤ i → (s.size : Int) - i = d → Gets (fun k => impl_SumMore.l0 k x s i) (· = crcL x ((bytesOf s).drop i.toNat)) := by
  induction d with
  | zero =>
    intro x i h0 h1 h2 hd
    refine Gets.step (fun k => impl_SumMore.l0.eq_2 ..) ?_
    refine Gets.neg (by omega) (Gets.ret ?_)
    rw [List.drop_of_length_le (by rw [bytesOf_length]; omega)]
    rfl
  | succ d ih =>
    intro x i h0 h1 h2 hd
    refine Gets.step (fun k => impl_SumMore.l0.eq_2 ..) ?_
    refine Gets.pos (by omega) (Gets.pos h2 ?_)
    have hr := bt_range s i
    rw [show bt s i % 4294967296 = bt s i by omega]
    refine implSum_l1 s i _ 8 _ 0 (xor_bd _ _).1 (xor_bd _ _).2 (by omega) (by omega) ?_
    rw [wrapId (by omega) (by omega), bytes_drop s i h2 (by omega)]
    have hb := hfs_bd 8 (xor_bd x (bt s i)).1 (xor_bd x (bt s i)).2
    exact ih _ (i + 1) hb.1 hb.2 (by omega) (by omega)
theorem implSumMore (x : Int) (s : ByteArray) (h0 : 0 ≤ x) (h1 : x < 4294967296) (hs : s.size ≤ 140737488351232) : Gets (fun k => impl_SumMore.f k x s) (· = crcL x (bytesOf s)) := by
  unfold impl_SumMore.f
  exact implSum_l0 s hs s.size x 0 h0 h1 (by omega) (by omega)

def four (n : Int) : List Int := [n / 16777216 % 256, n / 65536 % 256, n / 256 % 256, n % 256]
def sumT (s : ByteArray) : ByteArray := strOfNums (four (crcL 4294967295 (bytesOf s)))
theorem sumT_size (s : ByteArray) : (sumT s).size = 4 := by unfold sumT; rw [strOfNums_size]; rfl

theorem implSumOf (s : ByteArray) (hs : s.size ≤ 140737488351232) : Gets (fun k => impl_SumOf.f k s) (· = crcL 4294967295 (bytesOf s)) := by
  unfold impl_SumOf.f
  exact Gets.bind (implSumMore _ s (by omega) (by omega) hs) (fun a ha => Gets.ret ha)
theorem implSumText (s : ByteArray) (hs : s.size ≤ 140737488351232) : Gets (fun k => impl_sumText.f k s) (· = sumT s) := by
  unfold impl_sumText.f
  refine Gets.bind (implSumOf s hs) (fun a ha => Gets.ret ?_)
  subst ha
  rfl

theorem implSealed (s : ByteArray) (hs : s.size ≤ 140737488351232) : Gets (fun k => impl_Sealed.f k s) (fun r => (s.size ≤ 20000 → r = (s ++ sumT s, true)) ∧ (20000 < s.size → r = ((⟨#[]⟩ : ByteArray), false))) := by
  unfold impl_Sealed.f
  refine Gets.ite (fun h => Gets.ret ⟨fun h1 => by omega, fun _ => rfl⟩) (fun h => ?_)
  refine Gets.bind (implSumText s hs) (fun a ha => ?_)
  subst ha
  exact Gets.pos (by rw [sumT_size]; omega) (Gets.ret ⟨fun _ => rfl, fun h2 => by omega⟩)

/-! ### texts as lists of numbers -/
theorem bytesOf_inj {a b : ByteArray} (h : bytesOf a = bytesOf b) : a = b := by
  have hl : a.data.toList = b.data.toList := by
    unfold bytesOf at h
    exact List.map_inj_right (fun x y hxy => UInt8.toNat_inj.1 (by exact_mod_cast hxy)) |>.1 h
  have hd : a.data = b.data := Array.toList_inj.1 hl
  cases a; cases b; cases hd; rfl
theorem toList_iff (a b : ByteArray) : a.toList = b.toList ↔ a = b := by
  rw [Lib.toList_data, Lib.toList_data]
  exact ⟨fun h => bytesOf_inj (by unfold bytesOf; rw [h]), fun h => by rw [h]⟩
theorem bytesOf_range {s : ByteArray} {x : Int} (h : x ∈ bytesOf s) : 0 ≤ x ∧ x < 256 := by
  unfold bytesOf at h
  obtain ⟨b, _, rfl⟩ := List.mem_map.1 h
  have := b.toNat_lt
  omega
theorem bytesOf_str {xs : List Int} (h : ∀ x ∈ xs, 0 ≤ x ∧ x < 256) : bytesOf (strOfNums xs) = xs := by
  unfold bytesOf
  rw [strOfNums_data, List.map_map]
  conv => rhs; rw [← List.map_id xs]
  refine List.map_congr_left (fun x hx => ?_)
  have := h x hx
  simp only [Function.comp, UInt8.toNat_ofNat', id]
  omega
theorem str_bytesOf (s : ByteArray) : strOfNums (bytesOf s) = s := bytesOf_inj (bytesOf_str (fun _ => bytesOf_range))
theorem bytesOf_extract (s : ByteArray) (a b : Nat) : bytesOf (s.extract a b) = ((bytesOf s).drop a).take (b - a) := by
  unfold bytesOf
  rw [Lib.extract_data, List.map_take, List.map_drop]
theorem bytesOf_app (a b : ByteArray) : bytesOf (a ++ b) = bytesOf a ++ bytesOf b := by
  unfold bytesOf
  rw [← List.map_append]
  congr 1
  first | done | simp
theorem bt_getD (s : ByteArray) (i : Int) : bt s i = (bytesOf s).getD i.toNat 0 := (rd_bytesOf s i).symm
theorem bytesOf_empty : bytesOf (⟨#[]⟩ : ByteArray) = [] := rfl
theorem size_eq (s : ByteArray) : s.size = (bytesOf s).length := (bytesOf_length s).symm
theorem size_app (a b : ByteArray) : (a ++ b).size = a.size + b.size := by simp

theorem implUnsealed (t : ByteArray) (ht : t.size ≤ 20004) (h4 : 4 ≤ t.size) : Gets (fun k => impl_Unsealed.f k t) (· = if sumT (t.extract 0 (t.size - 4)) = t.extract (t.size - 4) t.size then (t.extract 0 (t.size - 4), true) else ((⟨#[]⟩ : ByteArray), false)) := by
  unfold impl_Unsealed.f
  rw [wrapId (by omega) (by omega), show ((t.size : Int) - 4).toNat = t.size - 4 by omega]
  refine Gets.neg (by omega) (Gets.neg (by omega) (Gets.pos (by omega) (Gets.pos (by omega) (Gets.bind (implSumText _ ?_) (fun a ha => ?_)))))
  · rw [size_eq, bytesOf_extract, List.length_take]; omega
  · subst ha
    refine Gets.ite (fun h => Gets.ret ?_) (fun h => Gets.ret ?_)
    · rw [if_pos ((toList_iff _ _).1 h)]
    · rw [if_neg (fun e => h (by rw [e]))]

theorem xor32 (a b : Int) : Go.bits .xor .u32 a b = (((BitVec.ofInt 32 a ^^^ BitVec.ofInt 32 b).toNat : Nat) : Int) := by
  have h2 := (BitVec.ofInt 32 a ^^^ BitVec.ofInt 32 b).isLt
  unfold Go.bits
  simp only [u32_wrap]
  show (((BitVec.ofInt 32 a ^^^ BitVec.ofInt 32 b).toNat : Nat) : Int) % 4294967296 = _
  omega
theorem ofInt32_inj {a b : Int} (ha : 0 ≤ a ∧ a < 4294967296) (hb : 0 ≤ b ∧ b < 4294967296) (h : BitVec.ofInt 32 a = BitVec.ofInt 32 b) : a = b := by
  have h1 := congrArg BitVec.toNat h
  rw [BitVec.toNat_ofInt, BitVec.toNat_ofInt] at h1
  have h3 : ((2 ^ 32 : Nat) : Int) = 4294967296 := rfl
  rw [h3, Int.emod_eq_of_lt ha.1 ha.2, Int.emod_eq_of_lt hb.1 hb.2] at h1
  omega
theorem bv_xor_cancel {w : Nat} {x y c : BitVec w} (h : x ^^^ c = y ^^^ c) : x = y := by
  have h1 : (x ^^^ c) ^^^ c = (y ^^^ c) ^^^ c := by rw [h]
  simpa [BitVec.xor_assoc] using h1
theorem xor32_inj {a b c : Int} (ha : 0 ≤ a ∧ a < 4294967296) (hb : 0 ≤ b ∧ b < 4294967296) (h : Go.bits .xor .u32 a c = Go.bits .xor .u32 b c) : a = b := by
  rw [xor32, xor32] at h
  exact ofInt32_inj ha hb (bv_xor_cancel (c := BitVec.ofInt 32 c) (BitVec.eq_of_toNat_eq (by omega)))
theorem xor32_inj' {a b c : Int} (ha : 0 ≤ a ∧ a < 4294967296) (hb : 0 ≤ b ∧ b < 4294967296) (h : Go.bits .xor .u32 c a = Go.bits .xor .u32 c b) : a = b := by
  rw [xor32, xor32] at h
  have h1 : BitVec.ofInt 32 c ^^^ BitVec.ofInt 32 a = BitVec.ofInt 32 c ^^^ BitVec.ofInt 32 b := BitVec.eq_of_toNat_eq (by omega)
  rw [BitVec.xor_comm, BitVec.xor_comm (BitVec.ofInt 32 c)] at h1
  exact ofInt32_inj ha hb (bv_xor_cancel h1)
theorem xor_high {a : Int} (ha : 0 ≤ a ∧ a < 2147483648) : 2147483648 ≤ Go.bits .xor .u32 a 3558460437 := by
  rw [xor32]
  have h1 : (BitVec.ofInt 32 a ^^^ BitVec.ofInt 32 3558460437).msb = true := by
    rw [BitVec.msb_xor]
    have h2 : (BitVec.ofInt 32 a).msb = false := by
      rw [BitVec.msb_eq_decide, BitVec.toNat_ofInt]
      have h3 : ((2 ^ 32 : Nat) : Int) = 4294967296 := rfl
      rw [h3, Int.emod_eq_of_lt ha.1 (by omega)]
      refine decide_eq_false ?_
      have : (2 : Nat) ^ (32 - 1) = 2147483648 := rfl
      rw [this]; omega
    have h4 : (BitVec.ofInt 32 3558460437).msb = true := by decide
    rw [h2, h4]; rfl
  rw [BitVec.msb_eq_decide] at h1
  have h5 := of_decide_eq_true h1
  have : (2 : Nat) ^ (32 - 1) = 2147483648 := rfl
  rw [this] at h5
  omega
theorem hf_inj {a b : Int} (ha : 0 ≤ a ∧ a < 4294967296) (hb : 0 ≤ b ∧ b < 4294967296) (h : hf a = hf b) : a = b := by
  unfold hf at h
  by_cases h1 : a % 2 = 1
  · by_cases h2 : b % 2 = 1
    · rw [if_pos h1, if_pos h2] at h
      have := xor32_inj (a := a / 2) (b := b / 2) (by omega) (by omega) h
      omega
    · rw [if_pos h1, if_neg h2] at h
      have := xor_high (a := a / 2) (by omega)
      omega
  · by_cases h2 : b % 2 = 1
    · rw [if_neg h1, if_pos h2] at h
      have := xor_high (a := b / 2) (by omega)
      omega
    · rw [if_neg h1, if_neg h2] at h
      omega
theorem hfs_inj : ∀ (n : Nat) {a b : Int}, (0 ≤ a ∧ a < 4294967296) → (0 ≤ b ∧ b < 4294967296) → hfs n a = hfs n b → a = b
  | 0, a, b, _, _, h => h
  | n + 1, a, b, ha, hb, h => hf_inj ha hb (hfs_inj n (hf_bd ha.1 ha.2) (hf_bd hb.1 hb.2) h)
theorem crcL_inj (l : List Int) : ∀ {a b : Int}, (0 ≤ a ∧ a < 4294967296) → (0 ≤ b ∧ b < 4294967296) → crcL a l = crcL b l → a = b := by
  induction l with
  | nil => intro a b _ _ h; exact h
  | cons x l ih =>
    intro a b ha hb h
    have h1 := ih (hfs_bd 8 (xor_bd a x).1 (xor_bd a x).2) (hfs_bd 8 (xor_bd b x).1 (xor_bd b x).2) h
    exact xor32_inj ha hb (hfs_inj 8 (xor_bd _ _) (xor_bd _ _) h1)
/-- One byte made another: another sum. -/
theorem crcL_set (l : List Int) : ∀ (i : Nat) (y a : Int), i < l.length → (∀ x ∈ l, 0 ≤ x ∧ x < 256) → (0 ≤ y ∧ y < 256) → l.getD i 0 ≠ y → (0 ≤ a ∧ a < 4294967296) → crcL a (l.set i y) ≠ crcL a l := by
  induction l with
  | nil => intro i y a h; simp at h
  | cons x l ih =>
    intro i y a hi hx hy hne ha
    have hx0 := hx x (List.mem_cons_self ..)
    cases i with
    | zero =>
      intro h
      rw [List.set_cons_zero] at h
      have h1 := crcL_inj l (hfs_bd 8 (xor_bd a y).1 (xor_bd a y).2) (hfs_bd 8 (xor_bd a x).1 (xor_bd a x).2) h
      have h2 := hfs_inj 8 (xor_bd _ _) (xor_bd _ _) h1
      have h3 := xor32_inj' (by omega) (by omega) h2
      exact hne (by simpa using h3.symm)
    | succ i =>
      rw [List.set_cons_succ]
      exact ih i y _ (by simpa using hi) (fun z hz => hx z (List.mem_cons_of_mem _ hz)) hy (by simpa using hne) (hfs_bd 8 (xor_bd a x).1 (xor_bd a x).2)
theorem crcL_app (a : Int) (l m : List Int) : crcL a (l ++ m) = crcL (crcL a l) m := by unfold crcL; rw [List.foldl_append]
theorem xor8_ne {x c : Int} (hx : 0 ≤ x ∧ x < 256) (hc : 1 ≤ c ∧ c ≤ 255) : Go.bits .xor .u8 x c ≠ x ∧ 0 ≤ Go.bits .xor .u8 x c ∧ Go.bits .xor .u8 x c < 256 := by
  have hw : ∀ n : Int, IntKind.u8.wrap n = n % 256 := fun n => IntKind.wrap_u8 n
  have h2 := (BitVec.ofInt 8 x ^^^ BitVec.ofInt 8 c).isLt
  have e : Go.bits .xor .u8 x c = (((BitVec.ofInt 8 x ^^^ BitVec.ofInt 8 c).toNat : Nat) : Int) := by
    unfold Go.bits
    simp only [hw]
    show (((BitVec.ofInt 8 x ^^^ BitVec.ofInt 8 c).toNat : Nat) : Int) % 256 = _
    omega
  rw [e]
  refine ⟨fun h => ?_, by omega, by omega⟩
  have h3 : ((2 ^ 8 : Nat) : Int) = 256 := rfl
  have hxx : ((BitVec.ofInt 8 x).toNat : Int) = x := by rw [BitVec.toNat_ofInt, h3, Int.emod_eq_of_lt hx.1 hx.2]; omega
  have h4 : BitVec.ofInt 8 c ^^^ BitVec.ofInt 8 x = 0#8 ^^^ BitVec.ofInt 8 x := by
    rw [BitVec.zero_xor, BitVec.xor_comm]
    exact BitVec.eq_of_toNat_eq (by omega)
  have h5 := congrArg BitVec.toNat (bv_xor_cancel h4)
  rw [BitVec.toNat_ofInt, h3, Int.emod_eq_of_lt (by omega) (by omega)] at h5
  simp at h5
  omega

/-! ### rows of numbers -/
theorem rd_get {l : List Int} {i : Int} (h : i.toNat < l.length) : rd l i = l[i.toNat] := by
  unfold rd; rw [List.getD_eq_getElem?_getD, List.getElem?_eq_getElem h]; rfl
theorem fill_step {α : Type} (l : List α) (d : α) (i : Nat) (h : i < l.length) : (l.take i ++ List.replicate (l.length - i) d).set i l[i] = l.take (i + 1) ++ List.replicate (l.length - (i + 1)) d := by
  have e : List.replicate (l.length - i) d = d :: List.replicate (l.length - (i + 1)) d := by
    rw [show l.length - i = (l.length - (i + 1)) + 1 by omega]; rfl
  rw [e, List.set_append_right _ _ (by rw [List.length_take]; omega), List.length_take, show i - min i l.length = 0 by omega, List.set_cons_zero, List.take_succ_eq_append_getElem h, List.append_assoc]
  rfl
theorem drop_at {α : Type} (l : List α) (i : Nat) (h : i < l.length) : l.drop i = l[i] :: l.drop (i + 1) := List.drop_eq_getElem_cons h
def marks (k : Int) (n : Nat) : List Int := (List.range n).map (fun (i : Nat) => k + (i : Int))
theorem marks_length (k : Int) (n : Nat) : (marks k n).length = n := by simp [marks]
theorem marks_get (k : Int) (n i : Nat) (h : i < n) : (marks k n)[i]'(by rw [marks_length]; exact h) = k + i := by simp [marks]

/-! ### the reader of draws: it always answers -/
theorem and_i64 (x : Int) (m : Nat) (hm : m < 9223372036854775808) : 0 ≤ Go.bits .and .i64 x (m : Int) ∧ Go.bits .and .i64 x (m : Int) ≤ (m : Int) := by
  have h1 : (BitVec.ofInt IntKind.i64.bits x &&& BitVec.ofInt IntKind.i64.bits (m : Int)).toNat ≤ m := by
    rw [BitVec.toNat_and]
    refine Nat.le_trans Nat.and_le_right ?_
    rw [BitVec.ofInt_natCast, BitVec.toNat_ofNat]
    exact Nat.mod_le _ _
  unfold Go.bits
  simp only [IntKind.wrap_i64]
  omega
theorem and255 (x : Int) : 0 ≤ Go.bits .and .i64 x 255 ∧ Go.bits .and .i64 x 255 < 256 := by
  have h := and_i64 x 255 (by decide)
  rw [show ((255 : Nat) : Int) = 255 from rfl] at h
  omega
theorem wrap_bd (x : Int) : -9223372036854775808 ≤ wrap64 x ∧ wrap64 x ≤ 9223372036854775807 := by unfold wrap64; omega
theorem dByte (l : List Int) (p z : Int) (hl : l.length ≤ 1048576) (hp : 0 ≤ p ∧ p ≤ l.length) : ∃ v p' z', spec_l01Byte.f l p z = some (v, p', z') ∧ (0 ≤ v ∧ v < 256) ∧ 0 ≤ p' ∧ p' ≤ l.length := by
  unfold spec_l01Byte.f
  by_cases h : p < (l.length : Int)
  · rw [if_pos h, if_pos hp.1]
    refine ⟨_, _, _, rfl, and255 _, ?_⟩
    rw [wrapId (by omega) (by omega)]; omega
  · rw [if_neg h]
    exact ⟨_, _, _, rfl, and255 _, hp⟩
theorem dBelow (l : List Int) (p z n : Int) (hl : l.length ≤ 1048576) (hp : 0 ≤ p ∧ p ≤ l.length) (hn : 0 < n) : ∃ v p' z', spec_l01Below.f l p z n = some (v, p', z') ∧ (0 ≤ v ∧ v < n) ∧ 0 ≤ p' ∧ p' ≤ l.length := by
  unfold spec_l01Below.f
  rw [if_neg (by omega)]
  by_cases h : n ≤ 256
  · rw [if_pos h]
    obtain ⟨v, p1, z1, e1, hv, hp1⟩ := dByte l p z hl hp
    rw [e1]
    simp only [Option.bind_some]
    rw [if_neg (by omega)]
    refine ⟨_, _, _, rfl, ?_, hp1⟩
    rw [tmod_nn hv.1]
    exact ⟨Int.emod_nonneg _ (by omega), Int.emod_lt_of_pos _ hn⟩
  · rw [if_neg h]
    obtain ⟨v1, p1, z1, e1, hv1, hp1⟩ := dByte l p z hl hp
    rw [e1]
    simp only [Option.bind_some]
    obtain ⟨v2, p2, z2, e2, hv2, hp2⟩ := dByte l p1 z1 hl hp1
    rw [e2]
    simp only [Option.bind_some]
    obtain ⟨v3, p3, z3, e3, hv3, hp3⟩ := dByte l p2 z2 hl hp2
    rw [e3]
    simp only [Option.bind_some]
    obtain ⟨v4, p4, z4, e4, hv4, hp4⟩ := dByte l p3 z3 hl hp3
    rw [e4]
    simp only [Option.bind_some]
    rw [if_neg (by omega)]
    refine ⟨_, _, _, rfl, ?_, hp4⟩
    rw [wrapId (x := v1 * 16777216) (by omega) (by omega), wrapId (x := v2 * 65536) (by omega) (by omega), wrapId (x := v1 * 16777216 + v2 * 65536) (by omega) (by omega), wrapId (x := v3 * 256) (by omega) (by omega), wrapId (x := v1 * 16777216 + v2 * 65536 + v3 * 256) (by omega) (by omega), wrapId (by omega) (by omega), tmod_nn (by omega)]
    exact ⟨Int.emod_nonneg _ (by omega), Int.emod_lt_of_pos _ hn⟩
theorem dNew_l0 (l : List Int) (hl : l.length ≤ 1048576) (d : Nat) : ∀ (i : Nat) (h : Int), l.length - i = d → i ≤ l.length → Gets (fun k => spec_l01New.l0 k l h (i : Int)) (fun r => r.1 = l ∧ r.2.1 = 0) := by
  induction d with
  | zero =>
    intro i h hd hi
    exact Gets.step (fun k => spec_l01New.l0.eq_2 ..) (Gets.neg (by omega) (Gets.ret ⟨rfl, rfl⟩))
  | succ d ih =>
    intro i h hd hi
    refine Gets.step (fun k => spec_l01New.l0.eq_2 ..) (Gets.pos (by omega) (Gets.ite (fun _ => Gets.pos (by omega) ?_) (fun _ => Gets.ret ⟨rfl, rfl⟩)))
    rw [wrapId (x := (i : Int) + 1) (by omega) (by omega), show ((i : Int) + 1) = ((i + 1 : Nat) : Int) by omega]
    exact ih (i + 1) _ (by omega) (by omega)
theorem dNew (l : List Int) (hl : l.length ≤ 1048576) : Gets (fun k => spec_l01New.f k l) (fun r => r.1 = l ∧ r.2.1 = 0) := by
  unfold spec_l01New.f
  exact dNew_l0 l hl _ 0 _ rfl (by omega)

theorem dText_l0 (l : List Int) (hl : l.length ≤ 1048576) (n : Int) (hn : n ≤ 5000) (d : Nat) : ∀ (i : Nat) (acc : List Int) (p z : Int), (n - i).toNat = d → acc.length = i → (0 ≤ p ∧ p ≤ l.length) → Gets (fun k => spec_l01Text.l0 k n acc (i : Int) l p z) (fun r => r.1.size = max i n.toNat ∧ 0 ≤ r.2.1 ∧ r.2.1 ≤ l.length) := by
  induction d with
  | zero =>
    intro i acc p z hd ha hp
    refine Gets.step (fun k => spec_l01Text.l0.eq_2 ..) (Gets.neg (by omega) (Gets.ret ⟨?_, hp⟩))
    show (strOfNums acc).size = _
    rw [strOfNums_size]; omega
  | succ d ih =>
    intro i acc p z hd ha hp
    refine Gets.step (fun k => spec_l01Text.l0.eq_2 ..) (Gets.pos (by omega) ?_)
    obtain ⟨v, p', z', e, hv, hp'⟩ := dByte l p z hl hp
    simp only [e, Option.bind_some]
    refine Gets.pos (by omega) ?_
    rw [wrapId (x := (i : Int) + 1) (by omega) (by omega), show ((i : Int) + 1) = ((i + 1 : Nat) : Int) by omega]
    exact (ih (i + 1) _ p' z' (by omega) (by simp; omega) hp').mono (fun r hr => ⟨by omega, hr.2⟩)
theorem dText (l : List Int) (p z n : Int) (hl : l.length ≤ 1048576) (hp : 0 ≤ p ∧ p ≤ l.length) (hn : 0 ≤ n ∧ n ≤ 5000) : Gets (fun k => spec_l01Text.f k l p z n) (fun r => r.1.size = n.toNat ∧ 0 ≤ r.2.1 ∧ r.2.1 ≤ l.length) := by
  unfold spec_l01Text.f
  refine Gets.neg (by omega) (Gets.step (fun k => spec_l01Text.j0.eq_2 ..) ?_)
  exact (dText_l0 l hl n (by omega) _ 0 [] p z rfl rfl hp).mono (fun r hr => ⟨by omega, hr.2⟩)

theorem dPlaces_l0 (l : List Int) (hl : l.length ≤ 1048576) (d : Nat) : ∀ (i : Nat) (acc : List Int) (p z : Int), 12 - i = d → acc.length = i → i ≤ 12 → (∀ x ∈ acc, 0 ≤ x ∧ x < 10000) → (0 ≤ p ∧ p ≤ l.length) → Gets (fun k => spec_DrawPlaces.l0 k acc (i : Int) l p z) (fun r => r.length = 12 ∧ ∀ x ∈ r, 0 ≤ x ∧ x < 10000) := by
  induction d with
  | zero =>
    intro i acc p z hd ha hi hm hp
    exact Gets.step (fun k => spec_DrawPlaces.l0.eq_2 ..) (Gets.neg (by omega) (Gets.ret ⟨by omega, hm⟩))
  | succ d ih =>
    intro i acc p z hd ha hi hm hp
    refine Gets.step (fun k => spec_DrawPlaces.l0.eq_2 ..) (Gets.pos (by omega) ?_)
    obtain ⟨v, p', z', e, hv, hp'⟩ := dBelow l p z 10000 hl hp (by omega)
    simp only [e, Option.bind_some]
    refine Gets.pos (by omega) ?_
    rw [wrapId (x := (i : Int) + 1) (by omega) (by omega), show ((i : Int) + 1) = ((i + 1 : Nat) : Int) by omega]
    refine ih (i + 1) _ p' z' (by omega) (by simp; omega) (by omega) (fun u hu => ?_) hp'
    rcases List.mem_append.1 hu with h1 | h1
    · exact hm u h1
    · rw [List.mem_singleton.1 h1]; exact hv
theorem dPlaces (l : List Int) (hl : l.length ≤ 1048576) : Gets (fun k => spec_DrawPlaces.f k l) (fun r => r.length = 12 ∧ ∀ x ∈ r, 0 ≤ x ∧ x < 10000) := by
  unfold spec_DrawPlaces.f
  refine Gets.bind (dNew l hl) (fun c hc => ?_)
  obtain ⟨c1, c2, c3⟩ := c
  obtain ⟨h1, h2⟩ := hc
  simp only at h1 h2
  subst h1 h2
  obtain ⟨v, p, z, e, hv, hp⟩ := dByte c1 0 c3 hl (by omega)
  simp only [e, Option.bind_some]
  exact dPlaces_l0 c1 hl _ 0 [] p z rfl rfl (by omega) (by simp) hp

theorem rdS_get {l : List ByteArray} {i : Int} (h : i.toNat < l.length) : rdOf ByteArray.empty l i = l[i.toNat] := by
  unfold rdOf; rw [List.getD_eq_getElem?_getD, List.getElem?_eq_getElem h]; rfl
def shortL (l : List ByteArray) : Bool := l.all (fun s => decide ((s.size : Int) ≤ 60))
theorem shortL_iff (l : List ByteArray) : shortL l = true ↔ ∀ s ∈ l, s.size ≤ 60 := by
  unfold shortL
  rw [List.all_eq_true]
  exact ⟨fun h s hs => by have := of_decide_eq_true (h s hs); omega, fun h s hs => decide_eq_true (by have := h s hs; omega)⟩
theorem shortL_cons (s : ByteArray) (l : List ByteArray) : shortL (s :: l) = (decide ((s.size : Int) ≤ 60) && shortL l) := rfl

theorem four_inj {a b : Int} (ha : 0 ≤ a ∧ a < 4294967296) (hb : 0 ≤ b ∧ b < 4294967296) (h : four a = four b) : a = b := by
  unfold four at h
  simp only [List.cons.injEq, and_true] at h
  omega
theorem four_range (a : Int) : ∀ x ∈ four a, 0 ≤ x ∧ x < 256 := by
  intro x hx
  unfold four at hx
  simp only [List.mem_cons, List.not_mem_nil, or_false] at hx
  omega
theorem bytes_sumT (s : ByteArray) : bytesOf (sumT s) = four (crcL 4294967295 (bytesOf s)) := bytesOf_str (four_range _)
theorem ext_bytes (t : ByteArray) (a b : Nat) (h : t.size = a + b) : bytesOf (t.extract 0 a) = (bytesOf t).take a ∧ bytesOf (t.extract a t.size) = (bytesOf t).drop a := by
  rw [bytesOf_extract, bytesOf_extract]
  refine ⟨by simp, ?_⟩
  exact List.take_of_length_le (by rw [List.length_drop, bytesOf_length]; omega)
theorem unsealed_back (s : ByteArray) (hs : s.size ≤ 20000) : Gets (fun k => impl_Unsealed.f k (s ++ sumT s)) (· = (s, true)) := by
  have hz : (s ++ sumT s).size = s.size + 4 := by rw [size_app, sumT_size]
  refine (implUnsealed (s ++ sumT s) (by omega) (by omega)).mono (fun r hr => ?_)
  have h := ext_bytes (s ++ sumT s) s.size 4 hz
  have e1 : (s ++ sumT s).extract 0 ((s ++ sumT s).size - 4) = s := by
    rw [hz, Nat.add_sub_cancel]
    refine bytesOf_inj ?_
    rw [h.1, bytesOf_app, List.take_left' (by rw [bytesOf_length])]
  have e2 : (s ++ sumT s).extract ((s ++ sumT s).size - 4) (s ++ sumT s).size = sumT s := by
    rw [show (s ++ sumT s).size - 4 = s.size by omega]
    refine bytesOf_inj ?_
    rw [h.2, bytesOf_app, List.drop_left' (by rw [bytesOf_length])]
  rw [e1, e2, if_pos rfl] at hr
  exact hr
theorem unsealed_turned (s : ByteArray) (hs : s.size ≤ 20000) (i : Nat) (y : Int) (hi : i < s.size + 4) (hy : 0 ≤ y ∧ y < 256) (hne : (bytesOf (s ++ sumT s)).getD i 0 ≠ y) :
    Gets (fun k => impl_Unsealed.f k (strOfNums ((bytesOf (s ++ sumT s)).set i y))) (fun r => r.2 = false) := by
  have hr : ∀ x ∈ (bytesOf (s ++ sumT s)).set i y, 0 ≤ x ∧ x < 256 := by
    intro x hx
    rcases List.mem_or_eq_of_mem_set hx with h | h
    · exact bytesOf_range h
    · exact h ▸ hy
  obtain ⟨t, ht⟩ : ∃ t, t = strOfNums ((bytesOf (s ++ sumT s)).set i y) := ⟨_, rfl⟩
  have hb : bytesOf t = (bytesOf (s ++ sumT s)).set i y := by rw [ht]; exact bytesOf_str hr
  have hz : t.size = s.size + 4 := by rw [size_eq, hb, List.length_set, bytesOf_length, size_app, sumT_size]
  rw [← ht]
  refine (implUnsealed t (by omega) (by omega)).mono (fun r hr => ?_)
  rw [if_neg ?_] at hr
  · rw [hr]
  · intro h
    have h1 := ext_bytes t s.size 4 hz
    rw [show t.size - 4 = s.size by omega] at h
    have h2 := congrArg bytesOf h
    rw [bytes_sumT, h1.1, h1.2, hb, bytesOf_app, bytes_sumT] at h2
    rw [bytesOf_app, bytes_sumT] at hne
    have hL : (bytesOf s).length = s.size := bytesOf_length s
    rcases Nat.lt_or_ge i s.size with hlt | hge
    · rw [List.set_append_left _ _ (by omega), List.take_left' (by rw [List.length_set, hL]), List.drop_left' (by rw [List.length_set, hL])] at h2
      refine crcL_set (bytesOf s) i y 4294967295 (by omega) (fun x hx => bytesOf_range hx) hy ?_ (by omega) (four_inj (crcL_bd _ (by omega) (by omega)) (crcL_bd _ (by omega) (by omega)) h2)
      intro e
      refine hne ?_
      rw [← e, List.getD_eq_getElem?_getD, List.getD_eq_getElem?_getD, List.getElem?_append_left (by omega)]
    · rw [List.set_append_right _ _ (by omega), List.take_left' hL, List.drop_left' hL, hL] at h2
      refine hne ?_
      rw [List.getD_eq_getElem?_getD, List.getElem?_append_right (by omega), hL, h2, List.getElem?_set_self (by rw [show (four (crcL 4294967295 (bytesOf s))).length = 4 from rfl]; omega)]
      rfl
theorem dSumOf (l : List Int) (hl : l.length ≤ 1048576) : Gets (fun k => spec_DrawSumOf.f k l) (fun r => r.size ≤ 40) := by
  unfold spec_DrawSumOf.f
  refine Gets.bind (dNew l hl) (fun c hc => ?_)
  obtain ⟨c1, c2, c3⟩ := c
  obtain ⟨h1, h2⟩ := hc
  simp only at h1 h2
  subst h1 h2
  obtain ⟨v, p, z, e, hv, hp⟩ := dBelow c1 0 c3 40 hl (by omega) (by omega)
  simp only [e, Option.bind_some]
  exact Gets.bind (dText c1 p z v hl hp (by omega)) (fun r hr => Gets.ret (by have := hr.1; omega))
theorem FnTurned : Stat.FnTurned := by
  intro l _
  refine Gets.rounds ?_
  unfold laws_FnTurned.f laws_big.f
  simp only [Option.bind_some]
  refine Gets.ite (fun _ => Gets.ret rfl) (fun h => ?_)
  have hl : l.length ≤ 1048576 := by
    rcases Nat.lt_or_ge 1048576 l.length with h1 | h1
    · exact absurd (decide_eq_true (by omega)) h
    · exact h1
  refine Gets.bind (dSumOf l hl) (fun s hs => Gets.bind (dPlaces l hl) (fun p hp => ?_))
  obtain ⟨hpl, hpm⟩ := hp
  have eS : Gets (fun k => impl_Sealed.f k s) (· = (s ++ sumT s, true)) := (implSealed s (by omega)).mono (fun r hr => hr.1 (by omega))
  have hz : (s ++ sumT s).size = s.size + 4 := by rw [size_app, sumT_size]
  refine Gets.bindE eS.ev (Gets.bindE (unsealed_back s (by omega)).ev (Gets.pos rfl (Gets.pos rfl (Gets.pos rfl ?_))))
  have e0 : (((s ++ sumT s).size : Int) != wrap64 ((s.size : Int) + 4)) = false := by
    rw [wrapId (by omega) (by omega), hz]; simp
  simp only [e0]
  refine Gets.step (fun k => laws_FnTurned.j0.eq_2 ..) (Gets.neg (by simp) (Gets.pos (by omega) ?_))
  simp only [Option.bind_some]
  have hB : (bytesOf (s ++ sumT s)).length = s.size + 4 := by rw [bytesOf_length, hz]
  obtain ⟨q0, r0, h0⟩ : ∃ q : Int, rd p 0 = q ∧ 0 ≤ q ∧ q < 10000 := ⟨p[0], rd_get (by omega), hpm _ (List.getElem_mem _)⟩
  obtain ⟨q1, r1, h1⟩ : ∃ q : Int, rd p 1 = q ∧ 0 ≤ q ∧ q < 10000 := ⟨p[1], rd_get (by simp only [Int.toNat_one]; omega), hpm _ (List.getElem_mem _)⟩
  refine Gets.pos (by omega) (Gets.neg (by omega) ?_)
  rw [r0, r1, tmod_nn h0.1, tmod_nn h1.1, wrapId (x := 1 + q1 % 255) (by omega) (by omega)]
  have hi0 : 0 ≤ q0 % ((bytesOf (s ++ sumT s)).length : Int) := Int.emod_nonneg _ (by omega)
  have hi1 : q0 % ((bytesOf (s ++ sumT s)).length : Int) < ((bytesOf (s ++ sumT s)).length : Int) := Int.emod_lt_of_pos _ (by omega)
  generalize hi : q0 % ((bytesOf (s ++ sumT s)).length : Int) = i at hi0 hi1 ⊢
  refine Gets.pos hi0 (Gets.pos hi1 (Gets.pos (by omega) ?_))
  have hc : 1 ≤ (1 + q1 % 255) % 256 ∧ (1 + q1 % 255) % 256 ≤ 255 := by omega
  generalize (1 + q1 % 255) % 256 = c at hc ⊢
  have hx : 0 ≤ rd (bytesOf (s ++ sumT s)) i ∧ rd (bytesOf (s ++ sumT s)) i < 256 := by
    rw [rd_get (by omega)]; exact bytesOf_range (List.getElem_mem _)
  obtain ⟨hn, hy0, hy1⟩ := xor8_ne hx hc
  refine Gets.bind (unsealed_turned s (by omega) i.toNat _ (by omega) ⟨hy0, hy1⟩ (fun e => hn e.symm)) (fun r hr => ?_)
  refine Gets.neg (by rw [hr]; simp) ?_
  have hcb := crcL_bd (bytesOf s) (x := 4294967295) (by omega) (by omega)
  refine Gets.bindE (implSumOf s (by omega)).ev (Gets.bindE (implSumMore _ _ hcb.1 hcb.2 (by decide)).ev (Gets.pos (by omega) (Gets.bindE (implSumOf _ (by rw [size_app]; have : (⟨#[120]⟩ : ByteArray).size = 1 := rfl; omega)).ev (Gets.ret ?_))))
  rw [bytesOf_app, crcL_app]
  simp

end Go.Proofs.Ytfakkehopmihoaa.Pure
