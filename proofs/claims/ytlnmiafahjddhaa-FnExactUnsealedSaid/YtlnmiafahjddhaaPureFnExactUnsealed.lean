/- The program's Unsealed and the reference's answer alike at every text. -/
import Derived.Test.YtlnmiafahjddhaaPFnExactUnsealedx3
import Derived.Lib.Strings
set_option linter.unusedVariables false
set_option linter.unusedSimpArgs false
namespace Go.Proofs.Ytlnmiafahjddhaa.Pure
open Go.RowKit Go.Proofs.Ytlnmiafahjddhaa.PFnExactUnsealed Go.Proofs.YtlnmiafahjddhaaW.PrintWords Go.Proofs.YtlnmiafahjddhaaW.PrintLast

/-! ### plain words: from some number of rounds on -/
def Gets {α : Type} (f : Nat → Option α) (Q : α → Prop) : Prop := ∃ r, Ev f r ∧ Q r
theorem Gets.ret {α : Type} {Q : α → Prop} {r : α} (h : Q r) : Gets (fun _ => some r) Q := ⟨r, Ev.now r, h⟩
theorem Gets.none {α : Type} {Q : α → Prop} (h : False) : Gets (fun _ => (Option.none : Option α)) Q := h.elim
theorem Gets.step {α : Type} {g f : Nat → Option α} {Q : α → Prop} (h : ∀ k, g (k + 1) = f k) (k : Gets f Q) : Gets g Q := by
  obtain ⟨r, hr, hq⟩ := k
  exact ⟨r, Ev.step h hr, hq⟩
theorem Ev.ite {α : Type} {c : Prop} [Decidable c] {f g : Nat → Option α} {r : α} (h : c → Ev f r) (k : ¬ c → Ev g r) : Ev (fun n => if c then f n else g n) r := by
  by_cases hc : c
  · simp only [hc, if_true]; exact h hc
  · simp only [hc, if_false]; exact k hc
theorem Gets.ite {α : Type} {c : Prop} [Decidable c] {f g : Nat → Option α} {Q : α → Prop} (h : c → Gets f Q) (k : ¬ c → Gets g Q) : Gets (fun n => if c then f n else g n) Q := by
  by_cases hc : c
  · simp only [hc, if_true]; exact h hc
  · simp only [hc, if_false]; exact k hc
theorem Gets.pos {α : Type} {c : Prop} [Decidable c] {f g : Nat → Option α} {Q : α → Prop} (hc : c) (h : Gets f Q) : Gets (fun n => if c then f n else g n) Q := by
  simp only [hc, if_true]; exact h
theorem Gets.neg {α : Type} {c : Prop} [Decidable c] {f g : Nat → Option α} {Q : α → Prop} (hc : ¬ c) (h : Gets g Q) : Gets (fun n => if c then f n else g n) Q := by
  simp only [hc, if_false]; exact h
theorem Gets.bind {α β : Type} {g : Nat → Option α} {f : Nat → α → Option β} {P : α → Prop} {Q : β → Prop} (h : Gets g P) (k : ∀ a, P a → Gets (fun n => f n a) Q) : Gets (fun n => (g n).bind (f n)) Q := by
  obtain ⟨a, ha, hp⟩ := h
  obtain ⟨r, hr, hq⟩ := k a hp
  exact ⟨r, Ev.bind ha hr, hq⟩
theorem Gets.bindE {α β : Type} {g : Nat → Option α} {f : Nat → α → Option β} {a : α} {Q : β → Prop} (h : Ev g a) (k : Gets (fun n => f n a) Q) : Gets (fun n => (g n).bind (f n)) Q := by
  obtain ⟨r, hr, hq⟩ := k
  exact ⟨r, Ev.bind h hr, hq⟩
theorem Gets.mono {α : Type} {f : Nat → Option α} {P Q : α → Prop} (h : Gets f P) (k : ∀ a, P a → Q a) : Gets f Q := by
  obtain ⟨r, hr, hp⟩ := h
  exact ⟨r, hr, k r hp⟩
theorem Gets.rounds {α : Type} {f : Nat → Option α} {r : α} (h : Gets f (· = r)) : ∃ k, f k = some r := by
  obtain ⟨a, ha, rfl⟩ := h
  exact ha.rounds
theorem Gets.ev {α : Type} {f : Nat → Option α} {r : α} (h : Gets f (· = r)) : Ev f r := by
  obtain ⟨a, ha, rfl⟩ := h
  exact ha
theorem Ev.gets {α : Type} {f : Nat → Option α} {r : α} {Q : α → Prop} (h : Ev f r) (hq : Q r) : Gets f Q := ⟨r, h, hq⟩
theorem Gets.same {α : Type} {o : Option α} {Q : α → Prop} {r : α} (h : o = some r) (hq : Q r) : Gets (fun _ => o) Q := by
  subst h; exact Gets.ret hq
theorem wrapId {x : Int} (h0 : -9223372036854775808 ≤ x) (h1 : x ≤ 9223372036854775807) : wrap64 x = x := by
  unfold wrap64; omega
theorem i64_bd {n : Int} (h : (Lit.int .i64 n).wf = true) : -9223372036854775808 ≤ n ∧ n ≤ 9223372036854775807 := by
  have hm : IntKind.i64.min = -9223372036854775808 := rfl
  simp [Lit.wf, hm] at h
  exact h
theorem boolEq {a b : Bool} {P Q : Prop} (ha : a = true ↔ P) (hb : b = true ↔ Q) (h : P ↔ Q) : a = b := by
  rw [Bool.eq_iff_iff, ha, hb, h]
theorem tmod_nn {a b : Int} (h : 0 ≤ a) : Int.tmod a b = a % b := Int.tmod_eq_emod_of_nonneg h
theorem tdiv_nn {a b : Int} (h : 0 ≤ a) : Int.tdiv a b = a / b := Int.tdiv_eq_ediv_of_nonneg h

/-! ### check sums -/
def hf (x : Int) : Int := if x % 2 = 1 then Go.bits .xor .u32 (x / 2) 3558460437 else x / 2
def hfs : Nat → Int → Int
  | 0, x => x
  | n + 1, x => hfs n (hf x)
def crcL (x : Int) (l : List Int) : Int := l.foldl (fun x b => hfs 8 (Go.bits .xor .u32 x b)) x
theorem u32_wrap (n : Int) : IntKind.u32.wrap n = n % 4294967296 := IntKind.wrap_u32 n
theorem xor_bd (a b : Int) : 0 ≤ Go.bits .xor .u32 a b ∧ Go.bits .xor .u32 a b < 4294967296 := by
  unfold Go.bits
  simp only [u32_wrap]
  omega
theorem and1 (x : Int) (h0 : 0 ≤ x) (h1 : x < 4294967296) : Go.bits .and .u32 x 1 = x % 2 :=
  Go.bits_mask .u32 32 (by decide) (fun n a b => by rw [u32_wrap]; omega) 1 (by decide) x h0 (by simpa using h1)
theorem hf_bd {x : Int} (h0 : 0 ≤ x) (h1 : x < 4294967296) : 0 ≤ hf x ∧ hf x < 4294967296 := by
  unfold hf
  split
  · exact xor_bd _ _
  · omega
theorem hfs_bd : ∀ (n : Nat) {x : Int}, 0 ≤ x → x < 4294967296 → 0 ≤ hfs n x ∧ hfs n x < 4294967296
  | 0, x, h0, h1 => ⟨h0, h1⟩
  | n + 1, x, h0, h1 => hfs_bd n (hf_bd h0 h1).1 (hf_bd h0 h1).2
theorem crcL_bd (l : List Int) : ∀ {x : Int}, 0 ≤ x → x < 4294967296 → 0 ≤ crcL x l ∧ crcL x l < 4294967296 := by
  induction l with
  | nil => intro x h0 h1; exact ⟨h0, h1⟩
  | cons b l ih => intro x h0 h1; exact ih (hfs_bd 8 (xor_bd x b).1 (xor_bd x b).2).1 (hfs_bd 8 (xor_bd x b).1 (xor_bd x b).2).2
theorem bytes_drop (s : ByteArray) (i : Int) (h0 : 0 ≤ i) (h1 : i < s.size) : (bytesOf s).drop i.toNat = bt s i :: (bytesOf s).drop (i + 1).toNat := by
  have hl : (bytesOf s).length = s.size := bytesOf_length s
  rw [List.drop_eq_getElem_cons (by omega), show (i + 1).toNat = i.toNat + 1 by omega]
  congr 1
  unfold bt bytesOf
  rw [dif_pos (by omega)]
  simp
  rfl

theorem implSum_l1 (s : ByteArray) (i : Int) (Q : Int → Prop) (d : Nat) : ∀ x j : Int, 0 ≤ x → x < 4294967296 → 0 ≤ j → 8 - j = d → Gets (fun k => impl_SumMore.l0 k (hfs d x) s (wrap64 (i + 1))) Q → Gets (fun k => impl_SumMore.l1 k x s i j) Q := by
  induction d with
  | zero =>
    intro x j h0 h1 h2 hd h
    refine Gets.step (fun k => impl_SumMore.l1.eq_2 ..) ?_
    exact Gets.neg (by omega) h
  | succ d ih =>
    intro x j h0 h1 h2 hd h
    refine Gets.step (fun k => impl_SumMore.l1.eq_2 ..) ?_
    refine Gets.pos (by omega) ?_
    rw [and1 x h0 h1, wrapId (by omega) (by omega)]
    have hb := hf_bd h0 h1
    have hh : hfs (d + 1) x = hfs d (hf x) := rfl
    rw [hh] at h
    refine Gets.ite (fun hc => ?_) (fun hc => ?_)
    · have e : hf x = Go.bits .xor .u32 (x / 2) 3558460437 := by unfold hf; rw [if_pos hc]
      rw [e] at h hb
      exact ih _ _ hb.1 hb.2 (by omega) (by omega) h
    · have e : hf x = x / 2 := by unfold hf; rw [if_neg hc]
      rw [e] at h hb
      exact ih _ _ hb.1 hb.2 (by omega) (by omega) h
theorem implSum_l0 (s : ByteArray) (hs : s.size ≤ 140737488351232) (d : Nat) : ∀ x i : Int, 0 ≤ x → x < 4294967296 → 0 ≤ i → (s.size : Int) - i = d → Gets (fun k => impl_SumMore.l0 k x s i) (· = crcL x ((bytesOf s).drop i.toNat)) := by
  induction d with
  | zero =>
    intro x i h0 h1 h2 hd
    refine Gets.step (fun k => impl_SumMore.l0.eq_2 ..) ?_
    refine Gets.neg (by omega) (Gets.ret ?_)
    rw [List.drop_of_length_le (by rw [bytesOf_length]; omega)]
    rfl
  | succ d ih =>
    intro x i h0 h1 h2 hd
    refine Gets.step (fun k => impl_SumMore.l0.eq_2 ..) ?_
    refine Gets.pos (by omega) (Gets.pos h2 ?_)
    have hr := bt_range s i
    rw [show bt s i % 4294967296 = bt s i by omega]
    refine implSum_l1 s i _ 8 _ 0 (xor_bd _ _).1 (xor_bd _ _).2 (by omega) (by omega) ?_
    rw [wrapId (by omega) (by omega), bytes_drop s i h2 (by omega)]
    have hb := hfs_bd 8 (xor_bd x (bt s i)).1 (xor_bd x (bt s i)).2
    exact ih _ (i + 1) hb.1 hb.2 (by omega) (by omega)
theorem implSumMore (x : Int) (s : ByteArray) (h0 : 0 ≤ x) (h1 : x < 4294967296) (hs : s.size ≤ 140737488351232) : Gets (fun k => impl_SumMore.f k x s) (· = crcL x (bytesOf s)) := by
  unfold impl_SumMore.f
  exact implSum_l0 s hs s.size x 0 h0 h1 (by omega) (by omega)

def four (n : Int) : List Int := [n / 16777216 % 256, n / 65536 % 256, n / 256 % 256, n % 256]
def sumT (s : ByteArray) : ByteArray := strOfNums (four (crcL 4294967295 (bytesOf s)))
theorem sumT_size (s : ByteArray) : (sumT s).size = 4 := by unfold sumT; rw [strOfNums_size]; rfl

theorem implSumOf (s : ByteArray) (hs : s.size ≤ 140737488351232) : Gets (fun k => impl_SumOf.f k s) (· = crcL 4294967295 (bytesOf s)) := by
  unfold impl_SumOf.f
  exact Gets.bind (implSumMore _ s (by omega) (by omega) hs) (fun a ha => Gets.ret ha)
theorem implSumText (s : ByteArray) (hs : s.size ≤ 140737488351232) : Gets (fun k => impl_sumText.f k s) (· = sumT s) := by
  unfold impl_sumText.f
  refine Gets.bind (implSumOf s hs) (fun a ha => Gets.ret ?_)
  subst ha
  rfl

theorem specSum_l1 (s : ByteArray) (i : Int) (Q : Int → Prop) (d : Nat) : ∀ x j : Int, 0 ≤ x → x < 4294967296 → 0 ≤ j → 8 - j = d → Gets (fun k => spec_SumMore.l0 k (hfs d x) s (wrap64 (i + 1))) Q → Gets (fun k => spec_SumMore.l1 k x s i j) Q := by
  induction d with
  | zero =>
    intro x j h0 h1 h2 hd h
    refine Gets.step (fun k => spec_SumMore.l1.eq_2 ..) ?_
    exact Gets.neg (by omega) h
  | succ d ih =>
    intro x j h0 h1 h2 hd h
    refine Gets.step (fun k => spec_SumMore.l1.eq_2 ..) ?_
    refine Gets.pos (by omega) ?_
    rw [tmod_nn h0, tdiv_nn h0, show x / 2 % 4294967296 = x / 2 by omega, wrapId (by omega) (by omega)]
    have hb := hf_bd h0 h1
    have hh : hfs (d + 1) x = hfs d (hf x) := rfl
    rw [hh] at h
    refine Gets.ite (fun hc => ?_) (fun hc => ?_)
    · have e : hf x = Go.bits .xor .u32 (x / 2) 3558460437 := by unfold hf; rw [if_pos hc]
      rw [e] at h hb
      exact ih _ _ hb.1 hb.2 (by omega) (by omega) h
    · have e : hf x = x / 2 := by unfold hf; rw [if_neg hc]
      rw [e] at h hb
      exact ih _ _ hb.1 hb.2 (by omega) (by omega) h
theorem specSum_l0 (s : ByteArray) (hs : s.size ≤ 140737488351232) (d : Nat) : ∀ x i : Int, 0 ≤ x → x < 4294967296 → 0 ≤ i → (s.size : Int) - i = d → Gets (fun k => spec_SumMore.l0 k x s i) (· = crcL x ((bytesOf s).drop i.toNat)) := by
  induction d with
  | zero =>
    intro x i h0 h1 h2 hd
    refine Gets.step (fun k => spec_SumMore.l0.eq_2 ..) ?_
    refine Gets.neg (by omega) (Gets.ret ?_)
    rw [List.drop_of_length_le (by rw [bytesOf_length]; omega)]
    rfl
  | succ d ih =>
    intro x i h0 h1 h2 hd
    refine Gets.step (fun k => spec_SumMore.l0.eq_2 ..) ?_
    refine Gets.pos (by omega) (Gets.pos h2 ?_)
    have hr := bt_range s i
    rw [show bt s i % 4294967296 = bt s i by omega]
    refine specSum_l1 s i _ 8 _ 0 (xor_bd _ _).1 (xor_bd _ _).2 (by omega) (by omega) ?_
    rw [wrapId (by omega) (by omega), bytes_drop s i h2 (by omega)]
    have hb := hfs_bd 8 (xor_bd x (bt s i)).1 (xor_bd x (bt s i)).2
    exact ih _ (i + 1) hb.1 hb.2 (by omega) (by omega)
theorem specSumMore (x : Int) (s : ByteArray) (h0 : 0 ≤ x) (h1 : x < 4294967296) (hs : s.size ≤ 140737488351232) : Gets (fun k => spec_SumMore.f k x s) (· = crcL x (bytesOf s)) := by
  unfold spec_SumMore.f
  exact specSum_l0 s hs s.size x 0 h0 h1 (by omega) (by omega)

theorem specSumOf (s : ByteArray) (hs : s.size ≤ 140737488351232) : Gets (fun k => spec_SumOf.f k s) (· = crcL 4294967295 (bytesOf s)) := by
  unfold spec_SumOf.f
  exact Gets.bind (specSumMore _ s (by omega) (by omega) hs) (fun a ha => Gets.ret ha)

theorem specFour (n : Int) : spec_l02Four.f n = some (strOfNums (four n)) := rfl

/-! ### texts as lists of numbers -/
theorem bytesOf_inj {a b : ByteArray} (h : bytesOf a = bytesOf b) : a = b := by
  have hl : a.data.toList = b.data.toList := by
    unfold bytesOf at h
    exact List.map_inj_right (fun x y hxy => UInt8.toNat_inj.1 (by exact_mod_cast hxy)) |>.1 h
  have hd : a.data = b.data := Array.toList_inj.1 hl
  cases a; cases b; cases hd; rfl
theorem toList_iff (a b : ByteArray) : a.toList = b.toList ↔ a = b := by
  rw [Lib.toList_data, Lib.toList_data]
  exact ⟨fun h => bytesOf_inj (by unfold bytesOf; rw [h]), fun h => by rw [h]⟩
theorem bytesOf_range {s : ByteArray} {x : Int} (h : x ∈ bytesOf s) : 0 ≤ x ∧ x < 256 := by
  unfold bytesOf at h
  obtain ⟨b, _, rfl⟩ := List.mem_map.1 h
  have := b.toNat_lt
  omega
theorem bytesOf_str {xs : List Int} (h : ∀ x ∈ xs, 0 ≤ x ∧ x < 256) : bytesOf (strOfNums xs) = xs := by
  unfold bytesOf
  rw [strOfNums_data, List.map_map]
  conv => rhs; rw [← List.map_id xs]
  refine List.map_congr_left (fun x hx => ?_)
  have := h x hx
  simp only [Function.comp, UInt8.toNat_ofNat', id]
  omega
theorem str_bytesOf (s : ByteArray) : strOfNums (bytesOf s) = s := bytesOf_inj (bytesOf_str (fun _ => bytesOf_range))
theorem bytesOf_extract (s : ByteArray) (a b : Nat) : bytesOf (s.extract a b) = ((bytesOf s).drop a).take (b - a) := by
  unfold bytesOf
  rw [Lib.extract_data, List.map_take, List.map_drop]
theorem bytesOf_app (a b : ByteArray) : bytesOf (a ++ b) = bytesOf a ++ bytesOf b := by
  unfold bytesOf
  rw [← List.map_append]
  congr 1
  first | done | simp
theorem bt_getD (s : ByteArray) (i : Int) : bt s i = (bytesOf s).getD i.toNat 0 := (rd_bytesOf s i).symm
theorem bytesOf_empty : bytesOf (⟨#[]⟩ : ByteArray) = [] := rfl
theorem size_eq (s : ByteArray) : s.size = (bytesOf s).length := (bytesOf_length s).symm
theorem size_app (a b : ByteArray) : (a ++ b).size = a.size + b.size := by simp

theorem FnExactUnsealed : laws_FnExactUnsealed.Pure := by
  intro s hs
  refine Gets.rounds ?_
  unfold laws_FnExactUnsealed.f spec_Unsealed.f impl_Unsealed.f
  refine Gets.ite (fun _ => Gets.ret rfl) (fun _ => ?_)
  rw [wrapId (by omega) (by omega)]
  by_cases h : (s.size : Int) - 4 < 0 ∨ (s.size : Int) - 4 > 20000
  · refine Gets.bind (P := fun r => r = ((⟨#[]⟩ : ByteArray), false)) ?_ (fun a ha => Gets.bind (P := fun r => r = ((⟨#[]⟩ : ByteArray), false)) ?_ (fun b hb => ?_))
    · exact Gets.ite (fun _ => Gets.ret rfl) (fun _ => Gets.pos (by omega) (Gets.ret rfl))
    · exact Gets.ite (fun _ => Gets.ret rfl) (fun _ => Gets.pos (by omega) (Gets.ret rfl))
    · subst ha hb
      exact Gets.pos rfl (Gets.neg (by simp) (Gets.ret rfl))
  · have hz : (s.extract 0 ((s.size : Int) - 4).toNat).size ≤ 140737488351232 := by
      rw [size_eq, bytesOf_extract, List.length_take]; omega
    generalize hu : s.extract 0 ((s.size : Int) - 4).toNat = u at *
    generalize hv : s.extract ((s.size : Int) - 4).toNat s.size = v at *
    let R : ByteArray × Bool := if (sumT u).toList = v.toList then (u, true) else ((⟨#[]⟩ : ByteArray), false)
    refine Gets.bind (P := fun r => r = R) ?_ (fun a ha => Gets.bind (P := fun r => r = R) ?_ (fun b hb => ?_))
    · refine Gets.neg (by omega) (Gets.neg (by omega) (Gets.pos (by omega) (Gets.pos (by omega) (Gets.bind (specSumOf u hz) (fun t ht => ?_)))))
      subst ht
      simp only [specFour, Option.bind_some]
      exact Gets.ite (fun h => Gets.ret (by show _ = R; simp only [R]; rw [if_pos (show (sumT u).toList = v.toList from h.symm)])) (fun h => Gets.ret (by show _ = R; simp only [R]; rw [if_neg (show ¬ (sumT u).toList = v.toList from fun e => h e.symm)]))
    · refine Gets.neg (by omega) (Gets.neg (by omega) (Gets.pos (by omega) (Gets.pos (by omega) (Gets.bind (implSumText u hz) (fun t ht => ?_)))))
      subst ht
      exact Gets.ite (fun h => Gets.ret (by show _ = R; simp only [R]; rw [if_pos h])) (fun h => Gets.ret (by show _ = R; simp only [R]; rw [if_neg h]))
    · subst hb
      rw [ha]
      exact Gets.pos rfl (Gets.neg (by simp) (Gets.ret rfl))

end Go.Proofs.Ytlnmiafahjddhaa.Pure
