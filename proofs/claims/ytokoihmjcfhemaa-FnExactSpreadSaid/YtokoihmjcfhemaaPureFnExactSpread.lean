/- Spread answers as the spec says, and keeps nothing of what it is handed -/
import Derived.Test.YtokoihmjcfhemaaStatFnExactSpread
import Derived.Lib.Strings
set_option linter.unusedVariables false
set_option linter.unusedSimpArgs false
namespace Go.Proofs.Ytokoihmjcfhemaa.Pure
open Go.RowKit Go.Proofs.Ytokoihmjcfhemaa.PFnExactSpread Go.Proofs.YtokoihmjcfhemaaW.PrintWords Go.Proofs.YtokoihmjcfhemaaW.PrintLast

/-! ### plain words: from some number of rounds on -/
def Gets {α : Type} (f : Nat → Option α) (Q : α → Prop) : Prop := ∃ r, Ev f r ∧ Q r
theorem Gets.ret {α : Type} {Q : α → Prop} {r : α} (h : Q r) : Gets (fun _ => some r) Q := ⟨r, Ev.now r, h⟩
theorem Gets.none {α : Type} {Q : α → Prop} (h : False) : Gets (fun _ => (Option.none : Option α)) Q := h.elim
theorem Gets.step {α : Type} {g f : Nat → Option α} {Q : α → Prop} (h : ∀ k, g (k + 1) = f k) (k : Gets f Q) : Gets g Q := by
  obtain ⟨r, hr, hq⟩ := k
  exact ⟨r, Ev.step h hr, hq⟩
theorem Ev.ite {α : Type} {c : Prop} [Decidable c] {f g : Nat → Option α} {r : α} (h : c → Ev f r) (k : ¬ c → Ev g r) : Ev (fun n => if c then f n else g n) r := by
  by_cases hc : c
  · simp only [hc, if_true]; exact h hc
  · simp only [hc, if_false]; exact k hc
theorem Gets.ite {α : Type} {c : Prop} [Decidable c] {f g : Nat → Option α} {Q : α → Prop} (h : c → Gets f Q) (k : ¬ c → Gets g Q) : Gets (fun n => if c then f n else g n) Q := by
  by_cases hc : c
  · simp only [hc, if_true]; exact h hc
  · simp only [hc, if_false]; exact k hc
theorem Gets.pos {α : Type} {c : Prop} [Decidable c] {f g : Nat → Option α} {Q : α → Prop} (hc : c) (h : Gets f Q) : Gets (fun n => if c then f n else g n) Q := by
  simp only [hc, if_true]; exact h
theorem Gets.neg {α : Type} {c : Prop} [Decidable c] {f g : Nat → Option α} {Q : α → Prop} (hc : ¬ c) (h : Gets g Q) : Gets (fun n => if c then f n else g n) Q := by
  simp only [hc, if_false]; exact h
theorem Gets.bind {α β : Type} {g : Nat → Option α} {f : Nat → α → Option β} {P : α → Prop} {Q : β → Prop} (h : Gets g P) (k : ∀ a, P a → Gets (fun n => f n a) Q) : Gets (fun n => (g n).bind (f n)) Q := by
  obtain ⟨a, ha, hp⟩ := h
  obtain ⟨r, hr, hq⟩ := k a hp
  exact ⟨r, Ev.bind ha hr, hq⟩
theorem Gets.bindE {α β : Type} {g : Nat → Option α} {f : Nat → α → Option β} {a : α} {Q : β → Prop} (h : Ev g a) (k : Gets (fun n => f n a) Q) : Gets (fun n => (g n).bind (f n)) Q := by
  obtain ⟨r, hr, hq⟩ := k
  exact ⟨r, Ev.bind h hr, hq⟩
theorem Gets.mono {α : Type} {f : Nat → Option α} {P Q : α → Prop} (h : Gets f P) (k : ∀ a, P a → Q a) : Gets f Q := by
  obtain ⟨r, hr, hp⟩ := h
  exact ⟨r, hr, k r hp⟩
theorem Gets.rounds {α : Type} {f : Nat → Option α} {r : α} (h : Gets f (· = r)) : ∃ k, f k = some r := by
  obtain ⟨a, ha, rfl⟩ := h
  exact ha.rounds
theorem Gets.ev {α : Type} {f : Nat → Option α} {r : α} (h : Gets f (· = r)) : Ev f r := by
  obtain ⟨a, ha, rfl⟩ := h
  exact ha
theorem Ev.gets {α : Type} {f : Nat → Option α} {r : α} {Q : α → Prop} (h : Ev f r) (hq : Q r) : Gets f Q := ⟨r, h, hq⟩
theorem Gets.same {α : Type} {o : Option α} {Q : α → Prop} {r : α} (h : o = some r) (hq : Q r) : Gets (fun _ => o) Q := by
  subst h; exact Gets.ret hq
theorem wrapId {x : Int} (h0 : -9223372036854775808 ≤ x) (h1 : x ≤ 9223372036854775807) : wrap64 x = x := by
  unfold wrap64; omega
theorem i64_bd {n : Int} (h : (Lit.int .i64 n).wf = true) : -9223372036854775808 ≤ n ∧ n ≤ 9223372036854775807 := by
  have hm : IntKind.i64.min = -9223372036854775808 := rfl
  simp [Lit.wf, hm] at h
  exact h
theorem boolEq {a b : Bool} {P Q : Prop} (ha : a = true ↔ P) (hb : b = true ↔ Q) (h : P ↔ Q) : a = b := by
  rw [Bool.eq_iff_iff, ha, hb, h]
theorem tmod_nn {a b : Int} (h : 0 ≤ a) : Int.tmod a b = a % b := Int.tmod_eq_emod_of_nonneg h
theorem tdiv_nn {a b : Int} (h : 0 ≤ a) : Int.tdiv a b = a / b := Int.tdiv_eq_ediv_of_nonneg h

/-! ### rows of numbers -/
theorem rd_get {l : List Int} {i : Int} (h : i.toNat < l.length) : rd l i = l[i.toNat] := by
  unfold rd; rw [List.getD_eq_getElem?_getD, List.getElem?_eq_getElem h]; rfl
theorem fill_step {α : Type} (l : List α) (d : α) (i : Nat) (h : i < l.length) : (l.take i ++ List.replicate (l.length - i) d).set i l[i] = l.take (i + 1) ++ List.replicate (l.length - (i + 1)) d := by
  have e : List.replicate (l.length - i) d = d :: List.replicate (l.length - (i + 1)) d := by
    rw [show l.length - i = (l.length - (i + 1)) + 1 by omega]; rfl
  rw [e, List.set_append_right _ _ (by rw [List.length_take]; omega), List.length_take, show i - min i l.length = 0 by omega, List.set_cons_zero, List.take_succ_eq_append_getElem h, List.append_assoc]
  rfl
theorem drop_at {α : Type} (l : List α) (i : Nat) (h : i < l.length) : l.drop i = l[i] :: l.drop (i + 1) := List.drop_eq_getElem_cons h
def marks (k : Int) (n : Nat) : List Int := (List.range n).map (fun (i : Nat) => k + (i : Int))
theorem marks_length (k : Int) (n : Nat) : (marks k n).length = n := by simp [marks]
theorem marks_get (k : Int) (n i : Nat) (h : i < n) : (marks k n)[i]'(by rw [marks_length]; exact h) = k + i := by simp [marks]

/-- The places from i on (i is where the list begins) at which x stands. -/
def kidsF (x : Int) : List Int → Int → List Int
  | [], _ => []
  | y :: l, i => if y = x then i :: kidsF x l (i + 1) else kidsF x l (i + 1)
theorem kidsF_length (x : Int) (l : List Int) : ∀ i, (kidsF x l i).length ≤ l.length := by
  induction l with
  | nil => intro i; simp [kidsF]
  | cons y l ih =>
    intro i
    have := ih (i + 1)
    unfold kidsF
    split <;> simp <;> omega
theorem implChildren_l0 (l : List Int) (x : Int) (hl : l.length ≤ 2000000) (d : Nat) : ∀ (i : Nat) (acc : List Int), l.length - i = d → i ≤ l.length → acc.length + d ≤ 2000000 → Gets (fun k => impl_Children.l0 k x acc l (l.length : Int) (i : Int)) (· = acc ++ kidsF x (l.drop i) i) := by
  induction d with
  | zero =>
    intro i acc hd hi ha
    refine Gets.step (fun k => impl_Children.l0.eq_2 ..) (Gets.neg (by omega) (Gets.ret ?_))
    rw [List.drop_of_length_le (by omega)]
    simp [kidsF]
  | succ d ih =>
    intro i acc hd hi ha
    refine Gets.step (fun k => impl_Children.l0.eq_2 ..) (Gets.pos (by omega) (Gets.pos (by omega) (Gets.pos (by omega) ?_)))
    rw [rd_get (by omega), wrapId (by omega) (by omega), drop_at l i (by omega)]
    simp only [Int.toNat_natCast, kidsF]
    rw [show ((i : Int) + 1) = ((i + 1 : Nat) : Int) by omega]
    refine Gets.ite (fun h => Gets.pos (by omega) ?_) (fun h => ?_)
    · refine (ih (i + 1) (acc ++ [(i : Int)]) (by omega) (by omega) (by simp; omega)).mono (fun r hr => ?_)
      rw [hr, if_pos h]; simp
    · refine (ih (i + 1) acc (by omega) (by omega) (by omega)).mono (fun r hr => ?_)
      rw [hr, if_neg h]
theorem implChildren (l : List Int) (x : Int) (hl : l.length ≤ 2000000) : Gets (fun k => impl_Children.f k l x) (· = kidsF x l 0) := by
  unfold impl_Children.f
  have h := implChildren_l0 l x hl l.length 0 [] (by omega) (by omega) (by simp; omega)
  simpa using h
theorem specChildren_l0 (l : List Int) (x : Int) (hl : l.length ≤ 2000000) (d : Nat) : ∀ (i : Nat) (acc : List Int), l.length - i = d → i ≤ l.length → acc.length + d ≤ 2000000 → Gets (fun k => spec_Children.l0 k l x acc (i : Int)) (· = acc ++ kidsF x (l.drop i) i) := by
  induction d with
  | zero =>
    intro i acc hd hi ha
    refine Gets.step (fun k => spec_Children.l0.eq_2 ..) (Gets.neg (by omega) (Gets.ret ?_))
    rw [List.drop_of_length_le (by omega)]
    simp [kidsF]
  | succ d ih =>
    intro i acc hd hi ha
    refine Gets.step (fun k => spec_Children.l0.eq_2 ..) (Gets.pos (by omega) (Gets.pos (by omega) ?_))
    rw [rd_get (by omega), wrapId (by omega) (by omega), drop_at l i (by omega)]
    simp only [Int.toNat_natCast, kidsF]
    rw [show ((i : Int) + 1) = ((i + 1 : Nat) : Int) by omega]
    refine Gets.ite (fun h => Gets.pos (by omega) ?_) (fun h => ?_)
    · refine (ih (i + 1) (acc ++ [(i : Int)]) (by omega) (by omega) (by simp; omega)).mono (fun r hr => ?_)
      rw [hr, if_pos h]; simp
    · refine (ih (i + 1) acc (by omega) (by omega) (by omega)).mono (fun r hr => ?_)
      rw [hr, if_neg h]
theorem specChildren (l : List Int) (x : Int) (hl : l.length ≤ 2000000) : Gets (fun k => spec_Children.f k l x) (· = kidsF x l 0) := by
  unfold spec_Children.f
  have h := specChildren_l0 l x hl l.length 0 [] (by omega) (by omega) (by simp; omega)
  simpa using h

/-! ### distances: the rounds over all ways, in plain words -/
def dg (d : List Int) (v : Nat) : Int := d.getD v (-1)
theorem dg_set (d : List Int) (b : Nat) (y : Int) (v : Nat) : dg (d.set b y) v = if v = b ∧ b < d.length then y else dg d v := by
  unfold dg
  rw [List.getD_eq_getElem?_getD, List.getD_eq_getElem?_getD, List.getElem?_set]
  by_cases h : b = v
  · subst h
    by_cases h2 : b < d.length
    · simp [h2]
    · simp [h2, List.getElem?_eq_none (Nat.le_of_not_lt h2)]
  · rw [if_neg h, if_neg (fun e => h e.1.symm)]
theorem dg_ext {d e : List Int} (hl : d.length = e.length) (h : ∀ v, v < d.length → dg d v = dg e v) : d = e := by
  refine List.ext_getElem hl (fun i h1 h2 => ?_)
  have := h i h1
  unfold dg at this
  simpa [List.getD_eq_getElem?_getD, h1, h2] using this
def rxc (d : List Int) (w : Nat × Nat × Int) : Prop := 0 ≤ dg d w.1 ∧ (dg d w.2.1 < 0 ∨ dg d w.1 + w.2.2 < dg d w.2.1)
instance rxcDec (d : List Int) (w : Nat × Nat × Int) : Decidable (rxc d w) := by unfold rxc; infer_instance
def rx (d : List Int) (w : Nat × Nat × Int) : List Int := if rxc d w then d.set w.2.1 (dg d w.1 + w.2.2) else d
theorem rx_yes {d : List Int} {w : Nat × Nat × Int} (c : rxc d w) : rx d w = d.set w.2.1 (dg d w.1 + w.2.2) := by unfold rx; rw [if_pos c]
theorem rx_no {d : List Int} {w : Nat × Nat × Int} (c : ¬ rxc d w) : rx d w = d := by unfold rx; rw [if_neg c]
def rxm (p : List Int × Bool) (w : Nat × Nat × Int) : List Int × Bool := if rxc p.1 w then (p.1.set w.2.1 (dg p.1 w.1 + w.2.2), true) else p
def wok (n : Nat) (w : Nat × Nat × Int) : Prop := w.1 < n ∧ w.2.1 < n ∧ 1 ≤ w.2.2 ∧ w.2.2 ≤ 100
def fins (d : List Int) : Int := (d.map (fun x => if x < 0 then (0 : Int) else 1)).sum
def dmu (d : List Int) : Int := (d.map (fun x => if x < 0 then (1000 : Int) else x)).sum
theorem sum_set (f : Int → Int) (y : Int) : ∀ (d : List Int) (b : Nat), b < d.length → ((d.set b y).map f).sum + f (dg d b) = (d.map f).sum + f y
  | [], b, h => absurd h (by simp)
  | x :: d, 0, _ => by simp [dg]; omega
  | x :: d, b + 1, h => by
    have := sum_set f y d b (by simpa using h)
    simp [dg] at this ⊢
    omega
theorem fins_le (d : List Int) : fins d ≤ d.length := by
  unfold fins
  induction d with
  | nil => simp
  | cons x d ih => simp only [List.map_cons, List.sum_cons, List.length_cons]; split <;> omega
theorem fins_nn (d : List Int) : 0 ≤ fins d := by
  unfold fins
  induction d with
  | nil => simp
  | cons x d ih => simp only [List.map_cons, List.sum_cons]; split <;> omega
theorem dmu_nn (d : List Int) : 0 ≤ dmu d := by
  unfold dmu
  induction d with
  | nil => simp
  | cons x d ih => simp only [List.map_cons, List.sum_cons]; split <;> omega
def dinv (n s : Nat) (W : List (Nat × Nat × Int)) (d : List Int) : Prop :=
  d.length = n ∧ s < n ∧ dg d s = 0 ∧ (∀ v, -1 ≤ dg d v) ∧ (∀ v, v ≠ s → 0 ≤ dg d v → ∃ w ∈ W, w.2.1 = v ∧ 0 ≤ dg d w.1 ∧ dg d w.1 + w.2.2 ≤ dg d v) ∧ (∀ v, dg d v ≤ 100 * fins d)
theorem rx_inv {n s : Nat} {W : List (Nat × Nat × Int)} {d : List Int} {w : Nat × Nat × Int} (h : dinv n s W d) (hw : w ∈ W) (hk : wok n w) : dinv n s W (rx d w) := by
  obtain ⟨h1, h2, h3, h4, h5, h6⟩ := h
  obtain ⟨k1, k2, k3, k4⟩ := hk
  unfold rx
  split
  · rename_i c
    obtain ⟨c1, c2⟩ := c
    have hab : w.1 ≠ w.2.1 := by
      intro e
      rw [← e] at c2
      omega
    have hs : w.2.1 ≠ s := by
      intro e
      rw [e, h3] at c2
      omega
    have hf := sum_set (fun x => if x < 0 then (0 : Int) else 1) (dg d w.1 + w.2.2) d w.2.1 (by omega)
    have hf2 : fins (d.set w.2.1 (dg d w.1 + w.2.2)) + (if dg d w.2.1 < 0 then (0 : Int) else 1) = fins d + 1 := by
      have e : (if dg d w.1 + w.2.2 < 0 then (0 : Int) else 1) = 1 := by rw [if_neg (by omega)]
      simp only [e] at hf
      exact hf
    have ha := h6 w.1
    have hb := h6 w.2.1
    refine ⟨by simpa using h1, h2, ?_, ?_, ?_, ?_⟩
    · rw [dg_set, if_neg (fun e => hs e.1.symm)]; exact h3
    · intro v
      rw [dg_set]
      split
      · omega
      · exact h4 v
    · intro v hv h0
      by_cases hvb : v = w.2.1
      · refine ⟨w, hw, hvb.symm, ?_, ?_⟩
        · rw [dg_set, if_neg (fun e => hab e.1)]; exact c1
        · rw [dg_set, dg_set, if_neg (fun e => hab e.1), if_pos ⟨hvb, by omega⟩]; omega
      · rw [dg_set, if_neg (fun e => hvb e.1)] at h0
        obtain ⟨w', hw', e', p1, p2⟩ := h5 v hv h0
        refine ⟨w', hw', e', ?_, ?_⟩
        · rw [dg_set]
          split
          · omega
          · exact p1
        · rw [dg_set, dg_set, if_neg (c := v = w.2.1 ∧ _) (fun e => hvb e.1)]
          split
          · rename_i e
            rw [e.1] at p1 p2
            omega
          · exact p2
    · intro v
      have hv := h6 v
      rw [dg_set]
      split <;> split at hf2 <;> omega
  · exact ⟨h1, h2, h3, h4, h5, h6⟩
theorem rx_mu {n s : Nat} {W : List (Nat × Nat × Int)} {d : List Int} {w : Nat × Nat × Int} (h : dinv n s W d) (hn : n ≤ 6) (hk : wok n w) (c : rxc d w) : dmu (rx d w) < dmu d := by
  obtain ⟨h1, h2, h3, h4, h5, h6⟩ := h
  obtain ⟨k1, k2, k3, k4⟩ := hk
  unfold rx
  rw [if_pos c]
  obtain ⟨c1, c2⟩ := c
  have hf := sum_set (fun x => if x < 0 then (1000 : Int) else x) (dg d w.1 + w.2.2) d w.2.1 (by omega)
  have ha := h6 w.1
  have hl := fins_le d
  have e : (if dg d w.1 + w.2.2 < 0 then (1000 : Int) else dg d w.1 + w.2.2) = dg d w.1 + w.2.2 := by rw [if_neg (by omega)]
  simp only [e] at hf
  unfold dmu
  split at hf <;> omega
/-- All that the ways of W say is told: nothing makes one shorter. -/
def dclosed (W : List (Nat × Nat × Int)) (d : List Int) : Prop := ∀ w ∈ W, ¬ rxc d w
theorem rxm_fold {n s : Nat} {W : List (Nat × Nat × Int)} (hn : n ≤ 6) : ∀ (V : List (Nat × Nat × Int)), (∀ w ∈ V, w ∈ W ∧ wok n w) → ∀ (d : List Int) (m : Bool), dinv n s W d →
    dinv n s W (V.foldl rx d) ∧ (V.foldl rxm (d, m)).1 = V.foldl rx d ∧ (((V.foldl rxm (d, m)).2 = m ∧ V.foldl rx d = d ∧ dclosed V d) ∨ ((V.foldl rxm (d, m)).2 = true ∧ dmu (V.foldl rx d) < dmu d)) := by
  intro V
  induction V with
  | nil => intro _ d m h; exact ⟨h, rfl, .inl ⟨rfl, rfl, fun w hw => by cases hw⟩⟩
  | cons w V ih =>
    intro hV d m h
    have hw := hV w (by simp)
    have hi := rx_inv h hw.1 hw.2
    have ih' := ih (fun u hu => hV u (by simp [hu]))
    simp only [List.foldl_cons]
    by_cases c : rxc d w
    · have e : rxm (d, m) w = (rx d w, true) := by unfold rxm rx; rw [if_pos c, if_pos c]
      rw [e]
      obtain ⟨a1, a2, a3⟩ := ih' (rx d w) true hi
      have hm := rx_mu h hn hw.2 c
      refine ⟨a1, a2, .inr ?_⟩
      rcases a3 with ⟨b1, b2, _⟩ | ⟨b1, b2⟩
      · exact ⟨b1, by rw [b2]; exact hm⟩
      · exact ⟨b1, by omega⟩
    · have e : rxm (d, m) w = (d, m) := by unfold rxm; rw [if_neg c]
      have e2 : rx d w = d := by unfold rx; rw [if_neg c]
      rw [e, e2]
      obtain ⟨a1, a2, a3⟩ := ih' d m h
      refine ⟨a1, a2, ?_⟩
      rcases a3 with ⟨b1, b2, b3⟩ | b
      · exact .inl ⟨b1, b2, fun u hu => by
          rcases List.mem_cons.1 hu with rfl | hu
          · exact c
          · exact b3 u hu⟩
      · exact .inr b
def dle (d D : List Int) : Prop := ∀ v, 0 ≤ dg d v → 0 ≤ dg D v ∧ dg D v ≤ dg d v
theorem dle_refl (d : List Int) : dle d d := fun v h => ⟨h, Int.le_refl _⟩
theorem dle_trans {a b c : List Int} (h : dle a b) (k : dle b c) : dle a c := fun v hv => by
  obtain ⟨h1, h2⟩ := h v hv
  obtain ⟨k1, k2⟩ := k v h1
  exact ⟨k1, by omega⟩
theorem rx_dec {n : Nat} {d : List Int} {w : Nat × Nat × Int} (hk : wok n w) : dle d (rx d w) := by
  intro v hv
  unfold rx
  split
  · rename_i c
    obtain ⟨c1, c2⟩ := c
    obtain ⟨_, _, k3, _⟩ := hk
    rw [dg_set]
    split
    · rename_i e
      rw [e.1] at hv ⊢
      omega
    · exact ⟨hv, Int.le_refl _⟩
  · exact ⟨hv, Int.le_refl _⟩
theorem pass_dec {n : Nat} : ∀ (V : List (Nat × Nat × Int)), (∀ w ∈ V, wok n w) → ∀ d, dle d (V.foldl rx d) := by
  intro V
  induction V with
  | nil => intro _ d; exact dle_refl d
  | cons w V ih =>
    intro h d
    exact dle_trans (rx_dec (h w (by simp))) (ih (fun u hu => h u (by simp [hu])) _)
theorem rx_ge {d D : List Int} {w : Nat × Nat × Int} (hc : ¬ rxc D w) (h : dle d D) : dle (rx d w) D := by
  intro v hv
  unfold rx at hv ⊢
  split at hv
  · rename_i c
    obtain ⟨c1, c2⟩ := c
    obtain ⟨a1, a2⟩ := h w.1 c1
    have : 0 ≤ dg D w.2.1 ∧ dg D w.2.1 ≤ dg D w.1 + w.2.2 := by
      refine ⟨?_, ?_⟩
      · rcases Int.lt_or_le (dg D w.2.1) 0 with h0 | h0
        · exact absurd ⟨a1, .inl h0⟩ hc
        · exact h0
      · rcases Int.lt_or_le (dg D w.1 + w.2.2) (dg D w.2.1) with h0 | h0
        · exact absurd ⟨a1, .inr h0⟩ hc
        · exact h0
    rw [dg_set] at hv
    rw [if_pos ⟨c1, c2⟩, dg_set]
    split
    · rename_i e
      rw [e.1]
      omega
    · rename_i e
      rw [if_neg e] at hv
      exact h v hv
  · rename_i c
    rw [if_neg c]
    exact h v hv
theorem pass_ge {D : List Int} : ∀ (V : List (Nat × Nat × Int)), dclosed V D → ∀ d, dle d D → dle (V.foldl rx d) D := by
  intro V
  induction V with
  | nil => intro _ d h; exact h
  | cons w V ih => intro hc d h; exact ih (fun u hu => hc u (by simp [hu])) _ (rx_ge (hc w (by simp)) h)
/-- What is right stays right. -/
theorem pass_keep {n : Nat} {D : List Int} (V : List (Nat × Nat × Int)) (hk : ∀ w ∈ V, wok n w) (hc : dclosed V D) (d : List Int) (h : dle d D) (v : Nat) (h0 : 0 ≤ dg D v) (hv : dg d v = dg D v) : dg (V.foldl rx d) v = dg D v := by
  have h1 := pass_dec V hk d v (by omega)
  have h2 := pass_ge V hc d h v h1.1
  omega
theorem pass_hit {n : Nat} {D : List Int} (V : List (Nat × Nat × Int)) (hk : ∀ w ∈ V, wok n w) (hc : dclosed V D) (d : List Int) (hl : d.length = n) (h : dle d D) (w : Nat × Nat × Int) (hw : w ∈ V) (h0 : 0 ≤ dg D w.1) (hv : dg d w.1 = dg D w.1) (ht : dg D w.2.1 = dg D w.1 + w.2.2) : dg (V.foldl rx d) w.2.1 = dg D w.2.1 := by
  obtain ⟨pre, post, rfl⟩ := List.append_of_mem hw
  rw [List.foldl_append, List.foldl_cons]
  have k1 : ∀ u ∈ pre, wok n u := fun u hu => hk u (by simp [hu])
  have c1 : dclosed pre D := fun u hu => hc u (by simp [hu])
  have k2 : ∀ u ∈ post, wok n u := fun u hu => hk u (by simp [hu])
  have c2 : dclosed post D := fun u hu => hc u (by simp [hu])
  have hkw := hk w (by simp)
  have hcw := hc w (by simp)
  have e1 := pass_keep pre k1 c1 d h w.1 h0 hv
  have g1 := pass_ge pre c1 d h
  have hlen : ∀ (V : List (Nat × Nat × Int)) (d : List Int), (V.foldl rx d).length = d.length := by
    intro V
    induction V with
    | nil => intro d; rfl
    | cons u V ih => intro d; rw [List.foldl_cons, ih]; unfold rx; split <;> simp
  have hl1 := hlen pre d
  generalize pre.foldl rx d = d1 at e1 g1 hl1 ⊢
  have g2 := rx_ge hcw g1
  refine pass_keep post k2 c2 _ g2 w.2.1 (by have := hkw.2.2.1; omega) ?_
  unfold rx at g2 ⊢
  split
  · rw [dg_set, if_pos ⟨rfl, by have := hkw.2.1; omega⟩, e1]; omega
  · rename_i c
    have : 0 ≤ dg d1 w.2.1 := by
      rcases Int.lt_or_le (dg d1 w.2.1) 0 with q | q
      · exact absurd ⟨by omega, .inl q⟩ c
      · exact q
    have g3 := g1 w.2.1 this
    rcases Int.lt_or_le (dg d1 w.1 + w.2.2) (dg d1 w.2.1) with q | q
    · exact absurd ⟨by omega, .inr q⟩ c
    · omega
def rank (D : List Int) (y : Int) : Nat := D.countP (fun x => decide (0 ≤ x ∧ x < y))
theorem rank_lt (D : List Int) (y1 y2 : Int) (h0 : 0 ≤ y1) (h : y1 < y2) (hm : y1 ∈ D) : rank D y1 < rank D y2 := by
  unfold rank
  induction D with
  | nil => cases hm
  | cons x D ih =>
    have hle : D.countP (fun x => decide (0 ≤ x ∧ x < y1)) ≤ D.countP (fun x => decide (0 ≤ x ∧ x < y2)) := List.countP_mono_left (fun z _ hz => by simp at hz ⊢; omega)
    rcases List.mem_cons.1 hm with rfl | hm
    · rw [List.countP_cons_of_neg (by simp), List.countP_cons_of_pos (by simp; omega)]
      omega
    · have := ih hm
      rw [List.countP_cons, List.countP_cons]
      by_cases c : 0 ≤ x ∧ x < y1
      · rw [if_pos (decide_eq_true c), if_pos (decide_eq_true ⟨c.1, by omega⟩)]; omega
      · rw [if_neg (by simpa using c)]; split <;> omega
theorem rank_bd (D : List Int) (y : Int) (hm : y ∈ D) : rank D y < D.length := by
  unfold rank
  induction D with
  | nil => cases hm
  | cons x D ih =>
    rcases List.mem_cons.1 hm with rfl | hm
    · rw [List.countP_cons_of_neg (by simp)]
      have := List.countP_le_length (p := fun x => decide (0 ≤ x ∧ x < y)) (l := D)
      rw [List.length_cons]; omega
    · have := ih hm
      rw [List.countP_cons, List.length_cons]
      split <;> omega
theorem dg_mem {D : List Int} {v : Nat} (h : 0 ≤ dg D v) : dg D v ∈ D ∧ v < D.length := by
  unfold dg at h ⊢
  rw [List.getD_eq_getElem?_getD] at h ⊢
  rcases Nat.lt_or_ge v D.length with q | q
  · rw [List.getElem?_eq_getElem q]
    exact ⟨List.getElem_mem q, q⟩
  · rw [List.getElem?_eq_none q] at h
    exact absurd h (by decide)
def passes (W : List (Nat × Nat × Int)) : Nat → List Int → List Int
  | 0, d => d
  | k + 1, d => passes W k (W.foldl rx d)
theorem passes_inv {n s : Nat} {W : List (Nat × Nat × Int)} (hn : n ≤ 6) (hW : ∀ w ∈ W, wok n w) (k : Nat) : ∀ d, dinv n s W d → dinv n s W (passes W k d) ∧ dle d (passes W k d) := by
  induction k with
  | zero => intro d h; exact ⟨h, dle_refl d⟩
  | succ k ih =>
    intro d h
    have h1 := (rxm_fold hn W (fun w hw => ⟨hw, hW w hw⟩) d false h).1
    have h2 := ih _ h1
    exact ⟨h2.1, dle_trans (pass_dec W hW d) h2.2⟩
theorem passes_all {n s : Nat} {W : List (Nat × Nat × Int)} (hn : n ≤ 6) (hW : ∀ w ∈ W, wok n w) {D : List Int} (hD : dinv n s W D) (hc : dclosed W D) (k : Nat) : ∀ (d : List Int) (j : Nat), dinv n s W d → dle d D → (∀ v, 0 ≤ dg D v → rank D (dg D v) < j → dg d v = dg D v) →
    ∀ v, 0 ≤ dg D v → rank D (dg D v) < j + k → dg (passes W k d) v = dg D v := by
  induction k with
  | zero => intro d j _ _ h v hv hr; exact h v hv (by omega)
  | succ k ih =>
    intro d j hi hd h v hv hr
    refine ih (W.foldl rx d) (j + 1) (rxm_fold hn W (fun w hw => ⟨hw, hW w hw⟩) d false hi).1 (pass_ge W hc d hd) ?_ v hv (by omega)
    intro u hu hru
    by_cases hs : u = s
    · subst hs
      refine pass_keep W hW hc d hd u hu ?_
      rw [hi.2.2.1, hD.2.2.1]
    · obtain ⟨w, hw, e, p1, p2⟩ := hD.2.2.2.2.1 u hs hu
      have ht : dg D w.2.1 = dg D w.1 + w.2.2 := by
        rcases Int.lt_or_le (dg D w.1 + w.2.2) (dg D w.2.1) with q | q
        · exact absurd ⟨p1, .inr q⟩ (hc w hw)
        · rw [e] at q ⊢; omega
      have hlt := rank_lt D (dg D w.1) (dg D u) p1 (by rw [← e, ht]; have := (hW w hw).2.2.1; omega) (dg_mem p1).1
      rw [← e]
      exact pass_hit W hW hc d hi.1 hd w hw p1 (h w.1 p1 (by omega)) ht
/-- n rounds are enough. -/
theorem passes_eq {n s : Nat} {W : List (Nat × Nat × Int)} (hn : n ≤ 6) (hW : ∀ w ∈ W, wok n w) {d D : List Int} (hi : dinv n s W d) (hD : dinv n s W D) (hc : dclosed W D) (hd : dle d D) : passes W n d = D := by
  obtain ⟨h1, _⟩ := passes_inv hn hW n d hi
  have hge : ∀ k d, dle d D → dle (passes W k d) D := by
    intro k
    induction k with
    | zero => intro d h; exact h
    | succ k ih => intro d h; exact ih _ (pass_ge W hc d h)
  refine dg_ext (by rw [h1.1, hD.1]) (fun v hv => ?_)
  rcases Int.lt_or_le (dg D v) 0 with q | q
  · have a := h1.2.2.2.1 v
    have b := hD.2.2.2.1 v
    rcases Int.lt_or_le (dg (passes W n d) v) 0 with q2 | q2
    · omega
    · have := hge n d hd v q2
      omega
  · refine passes_all hn hW hD hc n d 0 hi hd (fun v _ h => absurd h (by omega)) v q ?_
    have := rank_bd D _ (dg_mem q).1
    rw [hD.1] at this
    omega
def d0 (n s : Nat) : List Int := (List.replicate n (-1 : Int)).set s 0
theorem dg_rep (n v : Nat) : dg (List.replicate n (-1 : Int)) v = -1 := by
  unfold dg
  rw [List.getD_eq_getElem?_getD, List.getElem?_replicate]
  split <;> rfl
theorem d0_inv {n s : Nat} (W : List (Nat × Nat × Int)) (hs : s < n) : dinv n s W (d0 n s) := by
  have hf : 0 ≤ fins (d0 n s) := fins_nn _
  have hg : ∀ v, dg (d0 n s) v = if v = s then 0 else -1 := by
    intro v
    unfold d0
    rw [dg_set, dg_rep]
    simp [hs]
  refine ⟨by simp [d0], hs, by rw [hg, if_pos rfl], fun v => by rw [hg]; split <;> omega, fun v hv h => ?_, fun v => by rw [hg]; split <;> omega⟩
  rw [hg, if_neg hv] at h
  omega
theorem pass_zero {n s : Nat} {W : List (Nat × Nat × Int)} (hn : n ≤ 6) (hW : ∀ w ∈ W, wok n w) {d : List Int} (h : dinv n s W d) :
    ((W.foldl rxm (d, false)).2 = false ∧ W.foldl rx d = d ∧ dclosed W d) ∨ ((W.foldl rxm (d, false)).2 = true ∧ dmu (W.foldl rx d) < dmu d) := (rxm_fold hn W (fun w hw => ⟨hw, hW w hw⟩) d false h).2.2
/-- The rounds come to an end, and there nothing makes anything shorter. -/
theorem passes_end {n s : Nat} {W : List (Nat × Nat × Int)} (hn : n ≤ 6) (hW : ∀ w ∈ W, wok n w) (m : Nat) : ∀ d, dinv n s W d → dmu d ≤ m → ∃ k, dclosed W (passes W k d) := by
  induction m with
  | zero =>
    intro d h hm
    rcases pass_zero hn hW h with ⟨_, _, c⟩ | ⟨_, c⟩
    · exact ⟨0, c⟩
    · have := dmu_nn (W.foldl rx d); omega
  | succ m ih =>
    intro d h hm
    rcases pass_zero hn hW h with ⟨_, _, c⟩ | ⟨_, c⟩
    · exact ⟨0, c⟩
    · obtain ⟨k, hk⟩ := ih _ (rxm_fold hn W (fun w hw => ⟨hw, hW w hw⟩) d false h).1 (by omega)
      exact ⟨k + 1, hk⟩
/-- What the distances are: after n rounds all is said. -/
theorem dist_spec {n s : Nat} {W : List (Nat × Nat × Int)} (hn : n ≤ 6) (hs : s < n) (hW : ∀ w ∈ W, wok n w) : dinv n s W (passes W n (d0 n s)) ∧ dclosed W (passes W n (d0 n s)) := by
  have hi := d0_inv W hs
  obtain ⟨k, hk⟩ := passes_end hn hW (dmu (d0 n s)).toNat (d0 n s) hi (by have := dmu_nn (d0 n s); omega)
  obtain ⟨h1, h2⟩ := passes_inv hn hW k _ hi
  have e := passes_eq hn hW hi h1 hk h2
  rw [e]
  exact ⟨h1, hk⟩

/-! ### the tree: of all sites that lie right behind one, the least -/
def tq (s : Nat) (d : List Int) (w : Nat × Nat × Int) : Prop := w.2.1 ≠ s ∧ 0 ≤ dg d w.1 ∧ dg d w.1 + w.2.2 = dg d w.2.1
instance tqDec (s : Nat) (d : List Int) (w : Nat × Nat × Int) : Decidable (tq s d w) := by unfold tq; infer_instance
def tx (s : Nat) (d : List Int) (t : List Int) (w : Nat × Nat × Int) : List Int := if tq s d w ∧ (dg t w.2.1 < 0 ∨ (w.1 : Int) < dg t w.2.1) then t.set w.2.1 (w.1 : Int) else t
def tbest (s : Nat) (d : List Int) (V : List (Nat × Nat × Int)) (v : Nat) (y : Int) : Prop :=
  (y = -1 ∧ ∀ w ∈ V, w.2.1 = v → ¬ tq s d w) ∨ ∃ w ∈ V, w.2.1 = v ∧ tq s d w ∧ y = (w.1 : Int) ∧ ∀ u ∈ V, u.2.1 = v → tq s d u → w.1 ≤ u.1
theorem tbest_eq {s : Nat} {d : List Int} {V : List (Nat × Nat × Int)} {v : Nat} {y z : Int} (h : tbest s d V v y) (k : tbest s d V v z) : y = z := by
  rcases h with ⟨rfl, h⟩ | ⟨w, hw, e, q, rfl, h⟩ <;> rcases k with ⟨rfl, k⟩ | ⟨u, hu, e', q', rfl, k⟩
  · rfl
  · exact absurd q' (h u hu e')
  · exact absurd q (k w hw e)
  · have := h u hu e' q'
    have := k w hw e q
    omega
theorem tx_length (s : Nat) (d : List Int) : ∀ (V : List (Nat × Nat × Int)) (t : List Int), (V.foldl (tx s d) t).length = t.length := by
  intro V
  induction V with
  | nil => intro t; rfl
  | cons w V ih => intro t; rw [List.foldl_cons, ih]; unfold tx; split <;> simp
theorem tx_fold (s : Nat) (d : List Int) (n : Nat) (V : List (Nat × Nat × Int)) (hV : ∀ w ∈ V, wok n w) : ∀ (U : List (Nat × Nat × Int)) (t : List Int), t.length = n → (∀ v, v < n → tbest s d U v (dg t v)) → ∀ v, v < n → tbest s d (U ++ V) v (dg (V.foldl (tx s d) t) v) := by
  induction V with
  | nil => intro U t _ h v hv; simpa using h v hv
  | cons w V ih =>
    intro U t hl h v hv
    rw [List.foldl_cons, show U ++ w :: V = (U ++ [w]) ++ V by simp]
    have hw := hV w (by simp)
    refine ih (fun u hu => hV u (by simp [hu])) (U ++ [w]) _ (by have := tx_length s d [w] t; simp only [List.foldl_cons, List.foldl_nil] at this; rw [this, hl]) ?_ v hv
    intro v hv
    have hb := h v hv
    unfold tx
    by_cases q : tq s d w
    · by_cases e : w.2.1 = v
      · subst e
        rcases hb with ⟨h1, h2⟩ | ⟨u, hu, e', q', h1, h2⟩
        · rw [if_pos ⟨q, by omega⟩, dg_set, if_pos ⟨rfl, by omega⟩]
          refine .inr ⟨w, by simp, rfl, q, rfl, fun x hx ex qx => ?_⟩
          rcases List.mem_append.1 hx with hx | hx
          · exact absurd qx (h2 x hx ex)
          · rw [List.mem_singleton.1 hx]; exact Nat.le_refl _
        · by_cases c : w.1 < u.1
          · rw [if_pos ⟨q, by omega⟩, dg_set, if_pos ⟨rfl, by omega⟩]
            refine .inr ⟨w, by simp, rfl, q, rfl, fun x hx ex qx => ?_⟩
            rcases List.mem_append.1 hx with hx | hx
            · have := h2 x hx ex qx; omega
            · rw [List.mem_singleton.1 hx]; exact Nat.le_refl _
          · rw [if_neg (by rintro ⟨_, k⟩; omega)]
            refine .inr ⟨u, by simp [hu], e', q', h1, fun x hx ex qx => ?_⟩
            rcases List.mem_append.1 hx with hx | hx
            · exact h2 x hx ex qx
            · rw [List.mem_singleton.1 hx]; omega
      · have e1 : dg (if tq s d w ∧ (dg t w.2.1 < 0 ∨ (w.1 : Int) < dg t w.2.1) then t.set w.2.1 (w.1 : Int) else t) v = dg t v := by
          split
          · rw [dg_set, if_neg (fun k => e k.1.symm)]
          · rfl
        rw [e1]
        rcases hb with ⟨h1, h2⟩ | ⟨u, hu, e', q', h1, h2⟩
        · refine .inl ⟨h1, fun x hx ex => ?_⟩
          rcases List.mem_append.1 hx with hx | hx
          · exact h2 x hx ex
          · rw [List.mem_singleton.1 hx] at ex; exact absurd ex e
        · refine .inr ⟨u, by simp [hu], e', q', h1, fun x hx ex qx => ?_⟩
          rcases List.mem_append.1 hx with hx | hx
          · exact h2 x hx ex qx
          · rw [List.mem_singleton.1 hx] at ex; exact absurd ex e
    · rw [if_neg (fun k => q k.1)]
      rcases hb with ⟨h1, h2⟩ | ⟨u, hu, e', q', h1, h2⟩
      · refine .inl ⟨h1, fun x hx ex => ?_⟩
        rcases List.mem_append.1 hx with hx | hx
        · exact h2 x hx ex
        · rw [List.mem_singleton.1 hx]; exact q
      · refine .inr ⟨u, by simp [hu], e', q', h1, fun x hx ex qx => ?_⟩
        rcases List.mem_append.1 hx with hx | hx
        · exact h2 x hx ex qx
        · rw [List.mem_singleton.1 hx] at qx; exact absurd qx q
theorem tree_best (s : Nat) (d : List Int) (n : Nat) (V : List (Nat × Nat × Int)) (hV : ∀ w ∈ V, wok n w) (v : Nat) (hv : v < n) : tbest s d V v (dg (V.foldl (tx s d) (List.replicate n (-1))) v) := by
  have := tx_fold s d n V hV [] (List.replicate n (-1)) (by simp) (fun v _ => .inl ⟨dg_rep n v, fun w hw => by cases hw⟩) v hv
  simpa using this

/-! ### what is said at a root goes down the tree -/
def kidsN (t : List Int) (u : Nat) : List Nat := (List.range t.length).filter (fun v => decide (dg t v = (u : Int)))
theorem kidsN_mem {t : List Int} {u v : Nat} : v ∈ kidsN t u ↔ v < t.length ∧ dg t v = (u : Int) := by
  unfold kidsN; simp
theorem kidsN_nodup (t : List Int) (u : Nat) : (kidsN t u).Nodup := List.Pairwise.filter _ List.nodup_range
theorem nodup_count (p : Nat → Bool) (n : Nat) : ∀ l : List Nat, l.Nodup → (∀ x ∈ l, x < n ∧ p x = true) → l.length ≤ ((List.range n).filter p).length := by
  induction n with
  | zero =>
    intro l _ h
    cases l with
    | nil => simp
    | cons x l => have := (h x (by simp)).1; omega
  | succ n ih =>
    intro l hn h
    rw [List.range_succ, List.filter_append, List.length_append]
    have h1 := ih (l.erase n) (hn.erase n) (fun x hx => by
      have hx2 := (List.Nodup.mem_erase_iff hn).1 hx
      have := h x hx2.2
      exact ⟨by omega, this.2⟩)
    by_cases hm : n ∈ l
    · have := (h n hm).2
      have e := List.length_erase_of_mem hm
      have : 0 < l.length := List.length_pos_of_mem hm
      simp only [List.filter_cons, this, List.filter_nil]
      simp_all
    · rw [List.erase_of_not_mem hm] at h1
      omega
theorem nodup_same {H : List Nat} {n : Nat} (hn : H.Nodup) (hb : ∀ v ∈ H, v < n) (p : Nat → Bool) (h : ∀ v, v < n → (p v = true ↔ v ∈ H)) : ((List.range n).filter p).length = H.length := by
  refine Nat.le_antisymm ?_ (nodup_count p n H hn (fun x hx => ⟨hb x hx, (h x (hb x hx)).2 hx⟩))
  have key : ∀ (A B : List Nat), A.Nodup → (∀ x ∈ A, x ∈ B) → A.length ≤ B.length := by
    intro A
    induction A with
    | nil => intro B _ _; simp
    | cons a A ih =>
      intro B hA hs
      have ha := hs a (by simp)
      have := ih (B.erase a) (List.nodup_cons.1 hA).2 (fun x hx => by
        have hne : x ≠ a := fun e => (List.nodup_cons.1 hA).1 (e ▸ hx)
        exact (List.mem_erase_of_ne hne).2 (hs x (by simp [hx])))
      rw [List.length_erase_of_mem ha] at this
      have := List.length_pos_of_mem ha
      simp
      omega
  refine key _ _ (List.Pairwise.filter _ List.nodup_range) (fun x hx => ?_)
  simp at hx
  exact (h x hx.1).1 hx.2
/-- One round: the site at place i hands on. -/
structure spI (t : List Int) (L : Nat → Nat → Bool) (s : Nat) (H : List Nat) (i : Nat) (K : List Nat) : Prop where
  nd : H.Nodup
  bd : ∀ v ∈ H, v < t.length
  root : s ∈ H
  par : ∀ v ∈ H, v ≠ s → ∃ u ∈ H.take i, dg t v = (u : Int) ∧ L u v = false
  all : ∀ u ∈ H.take i, ∀ v, v < t.length → dg t v = (u : Int) → L u v = false → v ∈ H
  le : i ≤ H.length
  knd : K.Nodup
  kmem : ∀ v, v ∈ K ↔ v < t.length ∧ ∃ u ∈ H.take i, dg t v = (u : Int)
theorem spI_start {t : List Int} (L : Nat → Nat → Bool) {s : Nat} (hs : s < t.length) : spI t L s [s] 0 [] :=
  ⟨by simp, fun v hv => by rw [List.mem_singleton.1 hv]; exact hs, by simp, fun v hv h => absurd (List.mem_singleton.1 hv) h, fun u hu => by simp at hu, by simp, by simp, fun v => by simp⟩
def handed (t : List Int) (L : Nat → Nat → Bool) (u : Nat) : List Nat := (kidsN t u).filter (fun v => !L u v)
theorem handed_mem {t : List Int} {L : Nat → Nat → Bool} {u v : Nat} : v ∈ handed t L u ↔ v < t.length ∧ dg t v = (u : Int) ∧ L u v = false := by
  unfold handed; rw [List.mem_filter, kidsN_mem]; simp [and_assoc]
theorem take_not {H : List Nat} (hn : H.Nodup) {i : Nat} (hi : i < H.length) : H[i] ∉ H.take i := by
  intro h
  obtain ⟨j, hj, e⟩ := List.mem_iff_getElem.1 h
  rw [List.length_take] at hj
  rw [List.getElem_take] at e
  exact (List.pairwise_iff_getElem.1 hn) j i (by omega) hi (by omega) e
theorem spI_step {t : List Int} {L : Nat → Nat → Bool} {s : Nat} {H : List Nat} {i : Nat} {K : List Nat} (hs : dg t s = -1) (h : spI t L s H i K) (hi : i < H.length) : spI t L s (H ++ handed t L H[i]) (i + 1) (K ++ kidsN t H[i]) := by
  have htk : (H ++ handed t L H[i]).take (i + 1) = H.take i ++ [H[i]] := by
    rw [List.take_append_of_le_length (by omega), List.take_add_one, List.getElem?_eq_getElem hi]; rfl
  have hnt := take_not h.nd hi
  refine ⟨?_, ?_, ?_, ?_, ?_, ?_, ?_, ?_⟩
  · rw [List.nodup_append]
    refine ⟨h.nd, List.Pairwise.filter _ (kidsN_nodup t _), fun a ha b hb e => ?_⟩
    subst e
    obtain ⟨h1, h2, h3⟩ := handed_mem.1 hb
    by_cases hsa : a = s
    · rw [hsa, hs] at h2; omega
    · obtain ⟨u, hu, hu2, _⟩ := h.par a ha hsa
      have : u = H[i] := by omega
      exact hnt (this ▸ hu)
  · intro v hv
    rcases List.mem_append.1 hv with hv | hv
    · exact h.bd v hv
    · exact (handed_mem.1 hv).1
  · exact List.mem_append_left _ h.root
  · intro v hv hvs
    rw [htk]
    rcases List.mem_append.1 hv with hv | hv
    · obtain ⟨u, hu, hu2⟩ := h.par v hv hvs
      exact ⟨u, List.mem_append_left _ hu, hu2⟩
    · obtain ⟨_, h2, h3⟩ := handed_mem.1 hv
      exact ⟨H[i], List.mem_append_right _ (List.mem_singleton.2 rfl), h2, h3⟩
  · intro u hu v hv he hL
    rw [htk] at hu
    rcases List.mem_append.1 hu with hu | hu
    · exact List.mem_append_left _ (h.all u hu v hv he hL)
    · rw [List.mem_singleton.1 hu] at he hL
      exact List.mem_append_right _ (handed_mem.2 ⟨hv, he, hL⟩)
  · rw [List.length_append]; omega
  · rw [List.nodup_append]
    refine ⟨h.knd, kidsN_nodup t _, fun a ha b hb e => ?_⟩
    subst e
    obtain ⟨_, u, hu, hu2⟩ := (h.kmem a).1 ha
    have := (kidsN_mem.1 hb).2
    have : u = H[i] := by omega
    exact hnt (this ▸ hu)
  · intro v
    rw [htk, List.mem_append, h.kmem, kidsN_mem]
    constructor
    · rintro (⟨h1, u, hu, hu2⟩ | ⟨h1, h2⟩)
      · exact ⟨h1, u, List.mem_append_left _ hu, hu2⟩
      · exact ⟨h1, H[i], List.mem_append_right _ (List.mem_singleton.2 rfl), h2⟩
    · rintro ⟨h1, u, hu, hu2⟩
      rcases List.mem_append.1 hu with hu | hu
      · exact .inl ⟨h1, u, hu, hu2⟩
      · rw [List.mem_singleton.1 hu] at hu2; exact .inr ⟨h1, hu2⟩
theorem spI_bd {t : List Int} {L : Nat → Nat → Bool} {s : Nat} {H : List Nat} {i : Nat} {K : List Nat} (h : spI t L s H i K) : H.length ≤ t.length ∧ K.length ≤ t.length := by
  have e : ((List.range t.length).filter (fun _ => true)).length = t.length := by rw [List.filter_eq_self.2 (by simp)]; simp
  refine ⟨?_, ?_⟩
  · have := nodup_count (fun _ => true) t.length H h.nd (fun v hv => ⟨h.bd v hv, rfl⟩); omega
  · have := nodup_count (fun _ => true) t.length K h.knd (fun v hv => ⟨((h.kmem v).1 hv).1, rfl⟩); omega
/-- The rounds to their end. -/
def spRun (t : List Int) (L : Nat → Nat → Bool) : Nat → List Nat → Nat → List Nat → List Nat × List Nat
  | 0, H, _, K => (H, K)
  | k + 1, H, i, K => if h : i < H.length then spRun t L k (H ++ handed t L H[i]) (i + 1) (K ++ kidsN t H[i]) else (H, K)
theorem spRun_end {t : List Int} {L : Nat → Nat → Bool} {s : Nat} (hs : dg t s = -1) (k : Nat) : ∀ (H : List Nat) (i : Nat) (K : List Nat), spI t L s H i K → t.length ≤ i + k → spI t L s (spRun t L k H i K).1 (spRun t L k H i K).1.length (spRun t L k H i K).2 := by
  induction k with
  | zero =>
    intro H i K h hk
    have := (spI_bd h).1
    have := h.le
    have e : i = H.length := by omega
    subst e
    exact h
  | succ k ih =>
    intro H i K h hk
    unfold spRun
    split
    · rename_i hi
      exact ih _ _ _ (spI_step hs h hi) (by omega)
    · rename_i hi
      have := h.le
      have e : i = H.length := by omega
      subst e
      exact h
def spAll (t : List Int) (L : Nat → Nat → Bool) (s : Nat) : List Nat × List Nat := spRun t L t.length [s] 0 []
theorem spAll_end {t : List Int} (L : Nat → Nat → Bool) {s : Nat} (hs : dg t s = -1) (hl : s < t.length) : spI t L s (spAll t L s).1 (spAll t L s).1.length (spAll t L s).2 :=
  spRun_end hs t.length [s] 0 [] (spI_start L hl) (by omega)

theorem inR (x a b : Int) : impl_inRange.f x a b = some (decide (a ≤ x ∧ x ≤ b)) := by
  unfold impl_inRange.f
  by_cases h : x ≥ a
  · rw [if_pos h]; simp [show a ≤ x from h]
  · rw [if_neg h]; simp [show ¬ a ≤ x from h]

theorem inS (x a b : Int) : spec_l01In.f x a b = some (decide (a ≤ x ∧ x ≤ b)) := by
  unfold spec_l01In.f
  by_cases h : x ≥ a
  · rw [if_pos h]; simp [show a ≤ x from h]
  · rw [if_neg h]; simp [show ¬ a ≤ x from h]

def cvR (m : S53) : S38 := ⟨m.f0, m.f1, m.f2⟩
theorem rdR_get {l : List S38} {i : Int} (h : i.toNat < l.length) : rd_T38 l i = l[i.toNat] := by
  unfold rd_T38; rw [List.getD_eq_getElem?_getD, List.getElem?_eq_getElem h]; rfl
theorem rdRl_get {l : List S53} {i : Int} (h : i.toNat < l.length) : rd_T53 l i = l[i.toNat] := by
  unfold rd_T53; rw [List.getD_eq_getElem?_getD, List.getElem?_eq_getElem h]; rfl
/-- Right roads behind (pa, pb). -/
def roadsF (n : Int) : Int → Int → List S38 → Bool
  | _, _, [] => true
  | pa, pb, r :: l => decide ((0 ≤ r.f0 ∧ r.f0 < r.f1 ∧ r.f1 < n ∧ 1 ≤ r.f2 ∧ r.f2 ≤ 100) ∧ (pa < r.f0 ∨ (pa = r.f0 ∧ pb < r.f1))) && roadsF n r.f0 r.f1 l
theorem roadsF_cons (n pa pb : Int) (r : S38) (l : List S38) : roadsF n pa pb (r :: l) = (decide ((0 ≤ r.f0 ∧ r.f0 < r.f1 ∧ r.f1 < n ∧ 1 ≤ r.f2 ∧ r.f2 ≤ 100) ∧ (pa < r.f0 ∨ (pa = r.f0 ∧ pb < r.f1))) && roadsF n r.f0 r.f1 l) := rfl
def roadsB (n : Int) (l : List S38) : Bool := decide ((1 ≤ n ∧ n ≤ 6) ∧ (l.length : Int) ≤ 12) && roadsF n (-1) (-1) l

def waysR (r : S38) : List (Nat × Nat × Int) := [(r.f0.toNat, r.f1.toNat, r.f2), (r.f1.toNat, r.f0.toNat, r.f2)]
def waysOf (l : List S38) : List (Nat × Nat × Int) := l.flatMap waysR
def okR (n : Int) (r : S38) : Prop := 0 ≤ r.f0 ∧ r.f0 < r.f1 ∧ r.f1 < n ∧ 1 ≤ r.f2 ∧ r.f2 ≤ 100
theorem roadsF_ok (n : Int) (l : List S38) : ∀ pa pb, roadsF n pa pb l = true → ∀ r ∈ l, okR n r := by
  induction l with
  | nil => intro _ _ _ r hr; cases hr
  | cons r l ih =>
    intro pa pb h
    rw [roadsF_cons] at h
    simp only [Bool.and_eq_true, decide_eq_true_eq] at h
    intro u hu
    rcases List.mem_cons.1 hu with rfl | hu
    · exact h.1.1
    · exact ih _ _ h.2 u hu
theorem roadsB_ok {n : Int} {l : List S38} (h : roadsB n l = true) : (1 ≤ n ∧ n ≤ 6) ∧ l.length ≤ 12 ∧ ∀ r ∈ l, okR n r := by
  unfold roadsB at h
  simp only [Bool.and_eq_true, decide_eq_true_eq] at h
  exact ⟨h.1.1, by omega, roadsF_ok n l _ _ h.2⟩
theorem waysR_ok {n : Int} {r : S38} (h : okR n r) : ∀ w ∈ waysR r, wok n.toNat w := by
  obtain ⟨h1, h2, h3, h4, h5⟩ := h
  intro w hw
  simp only [waysR, List.mem_cons, List.not_mem_nil, or_false] at hw
  rcases hw with rfl | rfl <;> exact ⟨by simp only; omega, by simp only; omega, h4, h5⟩
theorem waysOf_ok {n : Int} {l : List S38} (h : ∀ r ∈ l, okR n r) : ∀ w ∈ waysOf l, wok n.toNat w := by
  intro w hw
  obtain ⟨r, hr, hw⟩ := List.mem_flatMap.1 hw
  exact waysR_ok (h r hr) w hw
theorem waysOf_cons (r : S38) (l : List S38) : waysOf (r :: l) = waysR r ++ waysOf l := by simp [waysOf]
theorem rd_dg {d : List Int} {a : Int} (h : a.toNat < d.length) : rd d a = dg d a.toNat := by
  unfold rd dg
  rw [List.getD_eq_getElem?_getD, List.getD_eq_getElem?_getD, List.getElem?_eq_getElem h]; rfl
theorem dinv_bd {n s : Nat} {W : List (Nat × Nat × Int)} {d : List Int} (hn : n ≤ 6) (h : dinv n s W d) (v : Nat) : -1 ≤ dg d v ∧ dg d v ≤ 600 := by
  have h1 := h.2.2.2.1 v
  have h2 := h.2.2.2.2.2 v
  have h3 := fins_le d
  have h4 := h.1
  omega
/-- A way's test, as both programs make it. -/
theorem way_test {n s : Nat} {W : List (Nat × Nat × Int)} {d : List Int} (hn : n ≤ 6) (h : dinv n s W d) {a b c : Int} (ha : 0 ≤ a ∧ a < n) (hb : 0 ≤ b ∧ b < n) (hc : 1 ≤ c ∧ c ≤ 100) :
    rd d a = dg d a.toNat ∧ rd d b = dg d b.toNat ∧ wrap64 (rd d a + c) = dg d a.toNat + c ∧ a.toNat < d.length ∧ b.toNat < d.length ∧ (d.length : Int) = n := by
  have hl := h.1
  have h1 := dinv_bd hn h a.toNat
  have e := rd_dg (d := d) (a := a) (by omega)
  exact ⟨e, rd_dg (by omega), by rw [e, wrapId (by omega) (by omega)], by omega, by omega, by omega⟩
theorem inRangeP (a b c : Int) : ∃ t, impl_inRange.f a b c = some t ∧ (t = true ↔ b ≤ a ∧ a ≤ c) := by
  unfold impl_inRange.f
  by_cases h : a ≥ b
  · rw [if_pos h]; exact ⟨_, rfl, by simp; omega⟩
  · rw [if_neg h]; exact ⟨_, rfl, by simp; omega⟩
/-- What both programs answer. -/
def distT (n : Int) (l : List S38) (s : Int) : List Int := if roadsB n l = true ∧ 0 ≤ s ∧ s ≤ n - 1 then passes (waysOf l) n.toNat (d0 n.toNat s.toNat) else []

/-! ### roads, each once: what a way costs -/
def costF : List S38 → Int → Int → Int
  | [], _, _ => 0
  | r :: l, u, v => if (r.f0 = u ∧ r.f1 = v) ∨ (r.f0 = v ∧ r.f1 = u) then r.f2 else costF l u v
theorem roadsF_gt (n : Int) (l : List S38) : ∀ pa pb, roadsF n pa pb l = true → ∀ r ∈ l, pa < r.f0 ∨ (pa = r.f0 ∧ pb < r.f1) := by
  induction l with
  | nil => intro _ _ _ r hr; cases hr
  | cons r l ih =>
    intro pa pb h
    rw [roadsF_cons] at h
    simp only [Bool.and_eq_true, decide_eq_true_eq] at h
    intro u hu
    rcases List.mem_cons.1 hu with rfl | hu
    · exact h.1.2
    · have := ih _ _ h.2 u hu
      have := h.1.2
      omega
theorem mem_waysOf {l : List S38} {w : Nat × Nat × Int} : w ∈ waysOf l ↔ ∃ r ∈ l, w = (r.f0.toNat, r.f1.toNat, r.f2) ∨ w = (r.f1.toNat, r.f0.toNat, r.f2) := by
  unfold waysOf
  rw [List.mem_flatMap]
  simp [waysR]
theorem costF_of {n : Int} (l : List S38) : ∀ pa pb, roadsF n pa pb l = true → ∀ r ∈ l, ∀ u v : Int, (r.f0 = u ∧ r.f1 = v) ∨ (r.f0 = v ∧ r.f1 = u) → costF l u v = r.f2 := by
  induction l with
  | nil => intro _ _ _ r hr; cases hr
  | cons q l ih =>
    intro pa pb h r hr u v huv
    rw [roadsF_cons] at h
    simp only [Bool.and_eq_true, decide_eq_true_eq] at h
    unfold costF
    rcases List.mem_cons.1 hr with rfl | hr
    · rw [if_pos huv]
    · have hg := roadsF_gt n l _ _ h.2 r hr
      have hok := roadsF_ok n l _ _ h.2 r hr
      obtain ⟨k1, k2, _⟩ := hok
      have := h.1.1.2.1
      rw [if_neg (by omega)]
      exact ih _ _ h.2 r hr u v huv
theorem costF_pos {l : List S38} {u v : Int} : 0 < costF l u v → ∃ r ∈ l, costF l u v = r.f2 ∧ ((r.f0 = u ∧ r.f1 = v) ∨ (r.f0 = v ∧ r.f1 = u)) := by
  induction l with
  | nil => intro h; simp [costF] at h
  | cons q l ih =>
    unfold costF
    split
    · rename_i c; intro _; exact ⟨q, by simp, rfl, c⟩
    · intro h
      obtain ⟨r, hr, e⟩ := ih h
      exact ⟨r, by simp [hr], e⟩
/-- A way is there when it costs something; then it costs just that. -/
theorem costF_way {n : Int} {l : List S38} (h : roadsB n l = true) (u v : Nat) (c : Int) : (u, v, c) ∈ waysOf l ↔ 0 < c ∧ costF l u v = c := by
  have hF : roadsF n (-1) (-1) l = true := by
    unfold roadsB at h
    simp only [Bool.and_eq_true] at h
    exact h.2
  have hok := (roadsB_ok h).2.2
  rw [mem_waysOf]
  constructor
  · rintro ⟨r, hr, e⟩
    obtain ⟨k1, k2, k3, k4, k5⟩ := hok r hr
    rcases e with e | e
    · simp only [Prod.mk.injEq] at e
      obtain ⟨rfl, rfl, rfl⟩ := e
      exact ⟨by omega, costF_of l _ _ hF r hr _ _ (.inl ⟨by omega, by omega⟩)⟩
    · simp only [Prod.mk.injEq] at e
      obtain ⟨rfl, rfl, rfl⟩ := e
      exact ⟨by omega, costF_of l _ _ hF r hr _ _ (.inr ⟨by omega, by omega⟩)⟩
  · rintro ⟨h0, e⟩
    obtain ⟨r, hr, e2, huv⟩ := costF_pos (l := l) (u := u) (v := v) (by omega)
    refine ⟨r, hr, ?_⟩
    have e3 : c = r.f2 := by omega
    rcases huv with ⟨a, b⟩ | ⟨a, b⟩
    · exact .inl (by rw [a, b, e3]; simp)
    · exact .inr (by rw [a, b, e3]; simp)
/-- The tree that both programs answer. -/
def treeOf (n : Int) (l : List S38) (s : Int) : List Int := (waysOf l).foldl (tx s.toNat (passes (waysOf l) n.toNat (d0 n.toNat s.toNat))) (List.replicate n.toNat (-1))
def treeT (n : Int) (l : List S38) (s : Int) : List Int := if roadsB n l = true ∧ 0 ≤ s ∧ s ≤ n - 1 then treeOf n l s else []
theorem treeOf_length (n : Int) (l : List S38) (s : Int) : (treeOf n l s).length = n.toNat := by unfold treeOf; rw [tx_length]; simp
theorem treeT_length {n : Int} {l : List S38} {s : Int} : (treeT n l s).length ≤ 6 := by
  unfold treeT
  split
  · rename_i h
    have := (roadsB_ok h.1).1
    rw [treeOf_length]; omega
  · simp

def toI (l : List Nat) : List Int := l.map (fun v : Nat => (v : Int))
theorem toI_length (l : List Nat) : (toI l).length = l.length := by simp [toI]
theorem rd_toI {l : List Nat} {i : Nat} (h : i < l.length) : rd (toI l) (i : Int) = (l[i] : Int) := by
  unfold rd toI
  rw [List.getD_eq_getElem?_getD]
  simp [h]
theorem toI_append (a b : List Nat) : toI (a ++ b) = toI a ++ toI b := by simp [toI]
theorem nodup_le (A : List Nat) : ∀ B : List Nat, A.Nodup → (∀ x ∈ A, x ∈ B) → A.length ≤ B.length := by
  induction A with
  | nil => intro B _ _; simp
  | cons a A ih =>
    intro B hA hs
    have ha := hs a (by simp)
    have := ih (B.erase a) (List.nodup_cons.1 hA).2 (fun x hx => by
      have hne : x ≠ a := fun e => (List.nodup_cons.1 hA).1 (e ▸ hx)
      exact (List.mem_erase_of_ne hne).2 (hs x (by simp [hx])))
    rw [List.length_erase_of_mem ha] at this
    have := List.length_pos_of_mem ha
    simp
    omega
def sortI (l : List Int) : List Int := l.mergeSort fun x y => decide (x ≤ y)
theorem sortI_mem {l : List Int} {x : Int} : x ∈ sortI l ↔ x ∈ l := by unfold sortI; exact List.mem_mergeSort
theorem sortI_length (l : List Int) : (sortI l).length = l.length := by unfold sortI; exact List.length_mergeSort l
theorem mem_toI {l : List Nat} {v : Nat} : (v : Int) ∈ toI l ↔ v ∈ l := by
  unfold toI
  rw [List.mem_map]
  constructor
  · rintro ⟨a, h, e⟩
    rwa [show v = a by omega]
  · intro h; exact ⟨v, h, rfl⟩
/-- Children, told as the sites that lie behind one. -/
theorem kids_range (x : Int) (t : List Int) : ∀ i : Nat, kidsF x t (i : Int) = toI ((List.range' i t.length).filter (fun v => decide (t.getD (v - i) 0 = x))) := by
  induction t with
  | nil => intro i; rfl
  | cons y t ih =>
    intro i
    have h := ih (i + 1)
    rw [show ((i + 1 : Nat) : Int) = (i : Int) + 1 by omega] at h
    have e : (List.range' (i + 1) t.length).filter (fun v => decide ((y :: t).getD (v - i) 0 = x)) = (List.range' (i + 1) t.length).filter (fun v => decide (t.getD (v - (i + 1)) 0 = x)) := by
      refine List.filter_congr (fun v hv => ?_)
      have hv2 := (List.mem_range'_1.1 hv).1
      obtain ⟨k, rfl⟩ : ∃ k, v = i + 1 + k := ⟨v - (i + 1), by omega⟩
      rw [show i + 1 + k - i = k + 1 by omega, show i + 1 + k - (i + 1) = k by omega]
      simp
    unfold kidsF
    rw [List.length_cons, List.range'_succ, List.filter_cons, e, Nat.sub_self]
    by_cases hy : y = x
    · rw [if_pos hy, h]
      simp [toI, hy]
    · rw [if_neg hy, h]
      simp [toI, hy]
theorem kids_eq (t : List Int) (u : Nat) : kidsF (u : Int) t 0 = toI (kidsN t u) := by
  have h := kids_range (u : Int) t 0
  rw [show ((0 : Nat) : Int) = 0 by rfl] at h
  rw [h]
  unfold kidsN
  rw [← List.range_eq_range']
  congr 1
  refine List.filter_congr (fun v hv => ?_)
  have := List.mem_range.1 hv
  unfold dg
  rw [Nat.sub_zero, List.getD_eq_getElem?_getD, List.getD_eq_getElem?_getD, List.getElem?_eq_getElem this]
  rfl
theorem kidsN_asc (t : List Int) (u : Nat) : (toI (kidsN t u)).Pairwise (· < ·) := by
  unfold toI
  rw [List.pairwise_map]
  exact (List.Pairwise.filter _ List.pairwise_lt_range).imp (fun h => by omega)
/-- What is lost, as the program asks. -/
def lostB (lst : List (List Int)) (u v : Nat) : Bool := lst.any (fun p => decide (p = [(u : Int), (v : Int)]))
def spreadOf (n : Int) (l : List S38) (s : Int) (lst : List (List Int)) : List Nat × List Nat := spAll (treeOf n l s) (lostB lst) s.toNat
def spreadT (n : Int) (l : List S38) (s : Int) (lst : List (List Int)) : List Int × Int := if roadsB n l = true ∧ 0 ≤ s ∧ s ≤ n - 1 then (sortI (toI (spreadOf n l s lst).1), ((spreadOf n l s lst).2.length : Int)) else ([], 0)
/-- The root has no site ahead of it. -/
theorem treeOf_root {n : Int} {l : List S38} {s : Int} (h : roadsB n l = true) (hs : 0 ≤ s ∧ s ≤ n - 1) : dg (treeOf n l s) s.toNat = -1 := by
  have hW := waysOf_ok (roadsB_ok h).2.2
  rcases tree_best s.toNat (passes (waysOf l) n.toNat (d0 n.toNat s.toNat)) n.toNat (waysOf l) hW s.toNat (by omega) with ⟨e, _⟩ | ⟨w, _, e, q, _⟩
  · exact e
  · exact absurd e q.1
theorem spreadOf_end {n : Int} {l : List S38} {s : Int} (lst : List (List Int)) (h : roadsB n l = true) (hs : 0 ≤ s ∧ s ≤ n - 1) :
    spI (treeOf n l s) (lostB lst) s.toNat (spreadOf n l s lst).1 (spreadOf n l s lst).1.length (spreadOf n l s lst).2 :=
  spAll_end (lostB lst) (treeOf_root h hs) (by rw [treeOf_length]; omega)

theorem implRoads_l0 (l : List S38) (n : Int) (hl : l.length ≤ 35184372088832) (hn : 1 ≤ n ∧ n ≤ 6) (d : Nat) : ∀ (i : Nat) (pa pb : Int), l.length - i = d → i ≤ l.length → (i = 0 → pa = -1 ∧ pb = -1) → (∀ h : 0 < i, ∀ h2 : i - 1 < l.length, pa = (l[i - 1]'h2).f0 ∧ pb = (l[i - 1]'h2).f1) → Gets (fun k => impl_RoadsOk.l0 k n l l (l.length : Int) (i : Int)) (· = roadsF n pa pb (l.drop i)) := by
  induction d with
  | zero =>
    intro i pa pb hd hi _ _
    refine Gets.step (fun k => impl_RoadsOk.l0.eq_2 ..) (Gets.neg (by omega) (Gets.ret ?_))
    rw [List.drop_of_length_le (by omega)]; rfl
  | succ d ih =>
    intro i pa pb hd hi hp0 hp1
    refine Gets.step (fun k => impl_RoadsOk.l0.eq_2 ..) (Gets.pos (by omega) (Gets.pos (by omega) (Gets.pos (by omega) ?_)))
    have e : rd_T38 l (i : Int) = l[i] := rdR_get (by omega)
    simp only [e, inR, Option.bind_some]
    rw [drop_at l i (by omega), roadsF_cons]
    have hi1 := ih (i + 1) l[i].f0 l[i].f1 (by omega) (by omega) (by omega) (fun _ h2 => ⟨by simp, by simp⟩)
    rw [show (((i + 1 : Nat)) : Int) = (i : Int) + 1 by omega] at hi1
    have hq : 0 < i → ∃ q : S38, rd_T38 l ((i : Int) - 1) = q ∧ pa = q.f0 ∧ pb = q.f1 := fun h => ⟨l[i - 1], by rw [rdR_get (by omega)]; congr 1; omega, (hp1 h (by omega)).1, (hp1 h (by omega)).2⟩
    generalize l[i] = r at e hi1 ⊢
    clear hp1 ih
    generalize hok : decide ((0 ≤ r.f0 ∧ r.f0 < r.f1 ∧ r.f1 < n ∧ 1 ≤ r.f2 ∧ r.f2 ≤ 100) ∧ (pa < r.f0 ∨ (pa = r.f0 ∧ pb < r.f1))) = ok
    have yes : ((0 ≤ r.f0 ∧ r.f0 < r.f1 ∧ r.f1 < n ∧ 1 ≤ r.f2 ∧ r.f2 ≤ 100) ∧ (pa < r.f0 ∨ (pa = r.f0 ∧ pb < r.f1))) → Gets (fun k => impl_RoadsOk.l0 k n l l (l.length : Int) (wrap64 ((i : Int) + 1))) (· = (ok && roadsF n r.f0 r.f1 (l.drop (i + 1)))) := fun h => by
      rw [wrapId (by omega) (by omega), ← hok, decide_eq_true h, Bool.true_and]; exact hi1
    have no : ¬ ((0 ≤ r.f0 ∧ r.f0 < r.f1 ∧ r.f1 < n ∧ 1 ≤ r.f2 ∧ r.f2 ≤ 100) ∧ (pa < r.f0 ∨ (pa = r.f0 ∧ pb < r.f1))) → Gets (fun _ => some false) (· = (ok && roadsF n r.f0 r.f1 (l.drop (i + 1)))) := fun h => by
      rw [← hok, decide_eq_false h]; exact Gets.ret rfl
    clear hok hi1
    have j3 : ∀ c : Bool, (c = true → ¬ ((0 ≤ r.f0 ∧ r.f0 < r.f1 ∧ r.f1 < n ∧ 1 ≤ r.f2 ∧ r.f2 ≤ 100) ∧ (pa < r.f0 ∨ (pa = r.f0 ∧ pb < r.f1)))) → (c = false → ((0 ≤ r.f0 ∧ r.f0 < r.f1 ∧ r.f1 < n ∧ 1 ≤ r.f2 ∧ r.f2 ≤ 100) ∧ (pa < r.f0 ∨ (pa = r.f0 ∧ pb < r.f1)))) → Gets (fun k => impl_RoadsOk.j3 k n l l (l.length : Int) (i : Int) c) (· = (ok && roadsF n r.f0 r.f1 (l.drop (i + 1)))) := fun c h1 h2 =>
      Gets.step (fun k => impl_RoadsOk.j3.eq_2 ..) (Gets.ite (fun h => no (h1 h)) (fun h => yes (h2 (by simpa using h))))
    have j2 : (0 ≤ r.f0 ∧ r.f0 < r.f1 ∧ r.f1 < n ∧ 1 ≤ r.f2 ∧ r.f2 ≤ 100) → Gets (fun k => impl_RoadsOk.j2 k n l (i : Int) l (l.length : Int) (i : Int) false r.f0 r.f1 r.f2) (· = (ok && roadsF n r.f0 r.f1 (l.drop (i + 1)))) := fun hr => by
      refine Gets.step (fun k => impl_RoadsOk.j2.eq_2 ..) (Gets.neg (by simp) ?_)
      refine Gets.ite (fun h => yes (by have := hp0 (by omega); omega)) (fun h => ?_)
      obtain ⟨q, e1, hqa, hqb⟩ := hq (by omega)
      rw [wrapId (x := (i : Int) - 1) (by omega) (by omega)]
      simp only [e1]
      refine Gets.pos (by omega) (Gets.pos (by omega) ?_)
      refine Gets.ite (fun h2 => j3 _ (fun _ => by omega) (by simp)) (fun h2 => Gets.ite (fun h3 => j3 _ (fun h4 => ?_) (fun h4 => ?_)) (fun h3 => j3 _ (by simp) (fun _ => by omega)))
      · have := of_decide_eq_true h4; omega
      · have := of_decide_eq_false h4; omega
    have j2t : ¬ (0 ≤ r.f0 ∧ r.f0 < r.f1 ∧ r.f1 < n ∧ 1 ≤ r.f2 ∧ r.f2 ≤ 100) → Gets (fun k => impl_RoadsOk.j2 k n l (i : Int) l (l.length : Int) (i : Int) true r.f0 r.f1 r.f2) (· = (ok && roadsF n r.f0 r.f1 (l.drop (i + 1)))) := fun hr =>
      Gets.step (fun k => impl_RoadsOk.j2.eq_2 ..) (Gets.pos rfl (no (fun h => hr h.1)))
    refine Gets.ite (fun h => j2t (by omega)) (fun h => Gets.ite (fun h => j2t (by omega)) (fun h => Gets.ite (fun h => j2t (by omega)) (fun h => ?_)))
    by_cases hc : 1 ≤ r.f2 ∧ r.f2 ≤ 100
    · simp only [decide_eq_true hc, Bool.not_true]; exact j2 (by omega)
    · simp only [decide_eq_false hc, Bool.not_false]; exact j2t (by omega)
theorem implRoads (l : List S38) (n : Int) (hl : l.length ≤ 35184372088832) : Gets (fun k => impl_RoadsOk.f k n l) (· = roadsB n l) := by
  unfold impl_RoadsOk.f roadsB
  simp only [inR, Option.bind_some, decide_eq_true_eq]
  have no : ∀ c, c = true → ¬ ((1 ≤ n ∧ n ≤ 6) ∧ (l.length : Int) ≤ 12) → Gets (fun k => impl_RoadsOk.j0 k n l c) (· = (decide ((1 ≤ n ∧ n ≤ 6) ∧ (l.length : Int) ≤ 12) && roadsF n (-1) (-1) l)) := fun c hc h =>
    Gets.step (fun k => impl_RoadsOk.j0.eq_2 ..) (Gets.pos hc (Gets.ret (by rw [decide_eq_false h]; rfl)))
  refine Gets.ite (fun h => ?_) (fun h => no _ rfl (fun h2 => h h2.1))
  by_cases h2 : (l.length : Int) ≤ 12
  · refine Gets.step (fun k => impl_RoadsOk.j0.eq_2 ..) (Gets.neg (by simp; omega) ?_)
    rw [decide_eq_true ⟨h, h2⟩, Bool.true_and]
    exact implRoads_l0 l n hl h l.length 0 (-1) (-1) (by omega) (by omega) (fun _ => ⟨rfl, rfl⟩) (fun h => by omega)
  · exact no _ (by simp; omega) (fun h3 => h2 h3.2)

theorem rel_rxm {n s : Nat} {W : List (Nat × Nat × Int)} {d : List Int} (hn : n ≤ 6) (h : dinv n s W d) (m : Bool) {a b c : Int} (ha : 0 ≤ a ∧ a < n) (hb : 0 ≤ b ∧ b < n) (hc : 1 ≤ c ∧ c ≤ 100) : impl_distances.rel (d, m) a b c = rxm (d, m) (a.toNat, b.toNat, c) := by
  obtain ⟨e1, e2, e3, _⟩ := way_test hn h ha hb hc
  unfold impl_distances.rel rxm rxc
  simp only [e1, e2] at e3 ⊢
  rw [e3]
theorem road_rxm {n s : Nat} {W : List (Nat × Nat × Int)} (hn : n ≤ 6) (l : List S38) : (∀ r ∈ l, okR n r) → (∀ w ∈ waysOf l, w ∈ W) → ∀ (d : List Int) (m : Bool), dinv n s W d → l.foldl impl_distances.road (d, m) = (waysOf l).foldl rxm (d, m) := by
  induction l with
  | nil => intro _ _ d m _; rfl
  | cons r l ih =>
    intro hr hW d m h
    obtain ⟨h1, h2, h3, h4, h5⟩ := hr r (by simp)
    have hw := waysR_ok (hr r (by simp))
    rw [waysOf_cons, List.foldl_append, List.foldl_cons]
    have e : impl_distances.road (d, m) r = (waysR r).foldl rxm (d, m) := by
      simp only [waysR, List.foldl_cons, List.foldl_nil, impl_distances.road]
      rw [rel_rxm hn h m ⟨by omega, by omega⟩ ⟨by omega, by omega⟩ ⟨h4, h5⟩]
      have hi := rxm_fold hn [(r.f0.toNat, r.f1.toNat, r.f2)] (fun w hw' => by
        rw [List.mem_singleton.1 hw']
        exact ⟨hW _ (by simp [waysOf, waysR]), by have := hw (r.f0.toNat, r.f1.toNat, r.f2) (by simp [waysR]); simpa using this⟩) d m h
      simp only [List.foldl_cons, List.foldl_nil] at hi
      generalize hp : rxm (d, m) (r.f0.toNat, r.f1.toNat, r.f2) = p at hi ⊢
      obtain ⟨d2, m2⟩ := p
      have hd : d2 = rx d (r.f0.toNat, r.f1.toNat, r.f2) := hi.2.1
      exact rel_rxm hn (hd ▸ hi.1) m2 ⟨by omega, by omega⟩ ⟨by omega, by omega⟩ ⟨h4, h5⟩
    rw [e]
    have hi := rxm_fold hn (waysR r) (fun w hw' => ⟨hW w (by rw [waysOf_cons]; exact List.mem_append_left _ hw'), by have := hw w hw'; simpa using this⟩) d m h
    generalize hp : (waysR r).foldl rxm (d, m) = p at hi ⊢
    obtain ⟨d2, m2⟩ := p
    have hd : d2 = (waysR r).foldl rx d := hi.2.1
    exact ih (fun u hu => hr u (by simp [hu])) (fun w hw' => hW w (by rw [waysOf_cons]; exact List.mem_append_right _ hw')) d2 m2 (hd ▸ hi.1)
theorem implDist_go {n s : Nat} (hn : n ≤ 6) (l : List S38) (hl : ∀ r ∈ l, okR n r) (m : Nat) : ∀ d, dinv n s (waysOf l) d → dmu d ≤ m → Gets (fun k => impl_distances.go k l d) (fun r => ∃ j, r = passes (waysOf l) j d ∧ dclosed (waysOf l) r) := by
  have hW : ∀ w ∈ waysOf l, wok n w := by have := waysOf_ok hl; simpa using this
  have base : ∀ d, dinv n s (waysOf l) d → (∃ j, Gets (fun k => impl_distances.go k l d) (fun r => r = passes (waysOf l) j d ∧ dclosed (waysOf l) r)) ∨ ((l.foldl impl_distances.road (d, false)) = ((waysOf l).foldl rx d, true) ∧ dmu ((waysOf l).foldl rx d) < dmu d) := by
    intro d h
    have e := road_rxm hn l hl (fun w hw => hw) d false h
    have e2 := (rxm_fold hn (waysOf l) (fun w hw => ⟨hw, hW w hw⟩) d false h).2.1
    rcases pass_zero hn hW h with ⟨a, b, c⟩ | ⟨a, b⟩
    · refine .inl ⟨0, Gets.step (fun k => impl_distances.go.eq_2 ..) (Gets.neg (by rw [e, a]; simp) (Gets.ret ?_))⟩
      rw [e, e2, b]
      exact ⟨rfl, c⟩
    · exact .inr ⟨by rw [e]; exact Prod.ext e2 a, b⟩
  induction m with
  | zero =>
    intro d h hm
    rcases base d h with ⟨j, g⟩ | ⟨_, b⟩
    · exact g.mono (fun r hr => ⟨j, hr⟩)
    · have := dmu_nn ((waysOf l).foldl rx d); omega
  | succ m ih =>
    intro d h hm
    rcases base d h with ⟨j, g⟩ | ⟨a, b⟩
    · exact g.mono (fun r hr => ⟨j, hr⟩)
    · refine Gets.step (fun k => impl_distances.go.eq_2 ..) (Gets.pos (by rw [a]) ?_)
      rw [a]
      refine (ih _ (rxm_fold hn (waysOf l) (fun w hw => ⟨hw, hW w hw⟩) d false h).1 (by omega)).mono (fun r hr => ?_)
      obtain ⟨j, e, c⟩ := hr
      exact ⟨j + 1, e, c⟩
theorem implDist (n : Int) (l : List S38) (s : Int) (h : roadsB n l = true) (hs : 0 ≤ s ∧ s ≤ n - 1) : Gets (fun k => impl_distances.f k n l s) (· = passes (waysOf l) n.toNat (d0 n.toNat s.toNat)) := by
  obtain ⟨h1, h2, h3⟩ := roadsB_ok h
  have h3' : ∀ r ∈ l, okR (n.toNat : Int) r := by rw [Int.toNat_of_nonneg (by omega)]; exact h3
  have hi := d0_inv (waysOf l) (n := n.toNat) (s := s.toNat) (by omega)
  have hW := waysOf_ok h3
  unfold impl_distances.f
  refine Gets.pos ⟨by omega, ?_⟩ ?_
  · rw [List.all_eq_true]
    intro r hr
    obtain ⟨a, b, c, _⟩ := h3 r hr
    exact decide_eq_true (by omega)
  · refine (implDist_go (by omega) l h3' (dmu (d0 n.toNat s.toNat)).toNat _ hi (by have := dmu_nn (d0 n.toNat s.toNat); omega)).mono (fun r hr => ?_)
    obtain ⟨j, rfl, c⟩ := hr
    have hj := passes_inv (by omega) hW j _ hi
    exact (passes_eq (by omega) hW hi hj.1 c hj.2).symm
theorem st_tx {n s : Nat} {W : List (Nat × Nat × Int)} {d : List Int} (hn : n ≤ 6) (h : dinv n s W d) (t : List Int) (ht : t.length = n) {a b c : Int} (ha : 0 ≤ a ∧ a < n) (hb : 0 ≤ b ∧ b < n) (hc : 1 ≤ c ∧ c ≤ 100) (s' : Int) (hs' : 0 ≤ s') : impl_TreeOf.st s' d t a b c = tx s'.toNat d t (a.toNat, b.toNat, c) := by
  obtain ⟨e1, e2, e3, l1, l2, l3⟩ := way_test hn h ha hb hc
  have e4 : rd t b = dg t b.toNat := rd_dg (by omega)
  unfold impl_TreeOf.st tx tq
  simp only [e1, e2] at e3 ⊢
  rw [e3, e4]
  by_cases c1 : b = s' ∨ dg d a.toNat < 0 ∨ dg d a.toNat + c ≠ dg d b.toNat
  · rw [if_pos c1, if_neg (by omega)]
  · rw [if_neg c1]
    by_cases c2 : dg t b.toNat < 0 ∨ a < dg t b.toNat
    · rw [if_pos c2, if_pos ⟨⟨by omega, by omega, by omega⟩, by omega⟩, Int.toNat_of_nonneg ha.1]
    · rw [if_neg c2, if_neg (by omega)]
theorem tree_fold {n s : Nat} {W : List (Nat × Nat × Int)} {d : List Int} (hn : n ≤ 6) (h : dinv n s W d) (s' : Int) (hs' : 0 ≤ s') (l : List S38) : (∀ r ∈ l, okR n r) → ∀ t : List Int, t.length = n → l.foldl (impl_TreeOf.road s' d) t = (waysOf l).foldl (tx s'.toNat d) t := by
  induction l with
  | nil => intro _ t _; rfl
  | cons r l ih =>
    intro hr t ht
    obtain ⟨h1, h2, h3, h4, h5⟩ := hr r (by simp)
    rw [waysOf_cons, List.foldl_append, List.foldl_cons]
    have e : impl_TreeOf.road s' d t r = (waysR r).foldl (tx s'.toNat d) t := by
      simp only [waysR, List.foldl_cons, List.foldl_nil, impl_TreeOf.road]
      rw [st_tx hn h t ht ⟨by omega, by omega⟩ ⟨by omega, by omega⟩ ⟨h4, h5⟩ s' hs']
      have hl := tx_length s'.toNat d [(r.f0.toNat, r.f1.toNat, r.f2)] t
      simp only [List.foldl_cons, List.foldl_nil] at hl
      exact st_tx hn h _ (by omega) ⟨by omega, by omega⟩ ⟨by omega, by omega⟩ ⟨h4, h5⟩ s' hs'
    rw [e]
    exact ih (fun u hu => hr u (by simp [hu])) _ (by rw [tx_length]; exact ht)
theorem implTreeOf (n : Int) (l : List S38) (s : Int) (hl : l.length ≤ 35184372088832) : Gets (fun k => impl_TreeOf.f k n l s) (· = treeT n l s) := by
  unfold impl_TreeOf.f treeT
  refine Gets.bind (implRoads l n hl) (fun t ht => ?_)
  subst ht
  refine Gets.ite (fun h => ?_) (fun h => Gets.ret (by rw [if_neg (fun e => h e.1)]))
  obtain ⟨hb, hlen, hok⟩ := roadsB_ok h
  obtain ⟨t, e, ht⟩ := inRangeP s 0 (n - 1)
  rw [wrapId (x := n - 1) (by omega) (by omega), e]
  simp only [Option.bind_some]
  refine Gets.ite (fun h2 => ?_) (fun h2 => Gets.ret (by rw [if_neg (fun e => h2 (ht.2 e.2))]))
  have h3 := ht.1 h2
  rw [if_pos ⟨h, h3⟩]
  refine Gets.bind (implDist n l s h h3) (fun d hd => ?_)
  have hD := (dist_spec (n := n.toNat) (s := s.toNat) (by omega) (by omega) (waysOf_ok hok)).1
  rw [← hd] at hD
  have e2 : ((n.toNat : Nat) : Int) = n := Int.toNat_of_nonneg (by omega)
  refine Gets.pos ⟨⟨by omega, by omega, by omega, hD.1⟩, ?_⟩ (Gets.ret ?_)
  · rw [List.all_eq_true]
    intro r hr
    obtain ⟨a, b, c, _⟩ := hok r hr
    exact decide_eq_true (by omega)
  · unfold treeOf
    rw [← hd]
    exact tree_fold (by omega) hD s h3.1 l (by rw [e2]; exact hok) _ (by simp)

theorem implSpread_l1 (lst : List (List Int)) (hlst : lst.length ≤ 1048576) (t : List Int) (i u : Nat) (K : List Nat) (hK : K.length ≤ 6) (Q : List Int × Int → Prop) (d : Nat) : ∀ (j : Nat) (A : List Nat) (c : Int) (hi : i < A.length), K.length - j = d → j ≤ K.length → A[i] = u → A.length + d ≤ 100 → (0 ≤ c ∧ c + d ≤ 100) →
    Gets (fun k => impl_Spread.l0 k lst t (toI (A ++ (K.drop j).filter (fun v => !lostB lst u v))) (c + (K.length - j : Nat)) (wrap64 ((i : Int) + 1))) Q → Gets (fun k => impl_Spread.l1 k lst t (toI A) c (i : Int) (toI K) (K.length : Int) (j : Int)) Q := by
  induction d with
  | zero =>
    intro j A c hi hd hj hu hA hc k
    refine Gets.step (fun k => impl_Spread.l1.eq_2 ..) (Gets.neg (by omega) ?_)
    rw [List.drop_eq_nil_of_le (by omega), hd] at k
    simpa using k
  | succ d ih =>
    intro j A c hi hd hj hu hA hc k
    have hjK : j < K.length := by omega
    refine Gets.step (fun k => impl_Spread.l1.eq_2 ..) (Gets.pos (by omega) (Gets.pos (by omega) (Gets.pos (by rw [toI_length]; omega) (Gets.pos (by omega) (Gets.pos (by rw [toI_length]; omega) ?_)))))
    rw [rd_toI hi, rd_toI hjK, hu]
    have e : impl_isLost.f lst (u : Int) ((K[j] : Nat) : Int) = some (lostB lst u K[j]) := by unfold impl_isLost.f; rw [if_pos (by omega)]; rfl
    rw [e]
    simp only [Option.bind_some]
    rw [List.drop_eq_getElem_cons hjK] at k
    rw [wrapId (x := c + 1) (by omega) (by omega), wrapId (x := (j : Int) + 1) (by omega) (by omega), show (j : Int) + 1 = ((j + 1 : Nat) : Int) by omega]
    have ec : c + ((K.length - j : Nat) : Int) = c + 1 + ((K.length - (j + 1) : Nat) : Int) := by omega
    rw [ec] at k
    by_cases hL : lostB lst u K[j] = true
    · refine Gets.pos hL (ih (j + 1) A (c + 1) hi (by omega) (by omega) hu (by omega) (by omega) ?_)
      rw [List.filter_cons_of_neg (by simp [hL])] at k
      exact k
    · refine Gets.neg hL (Gets.pos (by rw [toI_length]; omega) ?_)
      have e2 : toI A ++ [((K[j] : Nat) : Int)] = toI (A ++ [K[j]]) := by rw [toI_append]; rfl
      rw [e2]
      refine ih (j + 1) (A ++ [K[j]]) (c + 1) (by simp; omega) (by omega) (by omega) (by rw [List.getElem_append_left hi]; exact hu) (by simp; omega) (by omega) ?_
      rw [List.filter_cons_of_pos (by simp [hL])] at k
      rw [List.append_assoc]
      exact k
theorem implSpread_l0 (lst : List (List Int)) (hlst : lst.length ≤ 1048576) (t : List Int) (ht : t.length ≤ 6) (s : Nat) (hs : dg t s = -1) (d : Nat) : ∀ (i : Nat) (H K : List Nat), t.length - i = d → spI t (lostB lst) s H i K →
    Gets (fun k => impl_Spread.l0 k lst t (toI H) (K.length : Int) (i : Int)) (· = (sortI (toI (spRun t (lostB lst) d H i K).1), ((spRun t (lostB lst) d H i K).2.length : Int))) := by
  have fin : ∀ H : List Nat, H.length ≤ 6 → slices_Sort_int_int.f (toI H) = some (sortI (toI H)) := fun H hH => by unfold slices_Sort_int_int.f; rw [if_pos (by rw [toI_length]; omega)]; rfl
  induction d with
  | zero =>
    intro i H K hd h
    have hb := spI_bd h
    have hle := h.le
    refine Gets.step (fun k => impl_Spread.l0.eq_2 ..) (Gets.neg (by rw [toI_length]; omega) ?_)
    rw [fin H (by omega)]
    exact Gets.ret rfl
  | succ d ih =>
    intro i H K hd h
    have hb := spI_bd h
    unfold spRun
    by_cases hi : i < H.length
    · rw [dif_pos hi]
      refine Gets.step (fun k => impl_Spread.l0.eq_2 ..) (Gets.pos (by rw [toI_length]; omega) (Gets.pos (by omega) ?_))
      rw [rd_toI hi]
      refine Gets.bindE (implChildren t _ (by omega)).ev ?_
      rw [kids_eq]
      have hst := spI_step hs h hi
      have hb2 := spI_bd hst
      have hkl : (kidsN t H[i]).length ≤ 6 := by rw [List.length_append, List.length_append] at hb2; omega
      rw [toI_length]
      have h2 := ih (i + 1) _ _ (by omega) hst
      refine implSpread_l1 lst hlst t i H[i] (kidsN t H[i]) hkl _ _ 0 H (K.length : Int) hi rfl (by omega) rfl (by omega) (by omega) ?_
      rw [List.drop_zero, wrapId (by omega) (by omega), show (i : Int) + 1 = ((i + 1 : Nat) : Int) by omega]
      rw [List.length_append] at h2
      have e : (K.length : Int) + (((kidsN t H[i]).length - 0 : Nat) : Int) = ((K.length + (kidsN t H[i]).length : Nat) : Int) := by omega
      rw [e]
      exact h2
    · rw [dif_neg hi]
      refine Gets.step (fun k => impl_Spread.l0.eq_2 ..) (Gets.neg (by rw [toI_length]; omega) ?_)
      rw [fin H (by omega)]
      exact Gets.ret rfl
theorem implSpread (n : Int) (l : List S38) (s : Int) (lst : List (List Int)) (hl : l.length ≤ 35184372088832) (hlst : lst.length ≤ 1048576) : Gets (fun k => impl_Spread.f k n l s lst) (· = spreadT n l s lst) := by
  unfold impl_Spread.f spreadT
  refine Gets.bindE (implTreeOf n l s hl).ev ?_
  unfold treeT
  by_cases h : roadsB n l = true ∧ 0 ≤ s ∧ s ≤ n - 1
  · rw [if_pos h, if_pos h]
    have hb := (roadsB_ok h.1).1
    have hT := treeOf_length n l s
    refine Gets.neg (by omega) ?_
    have hi := implSpread_l0 lst hlst (treeOf n l s) (by omega) s.toNat (treeOf_root h.1 h.2) (treeOf n l s).length 0 [s.toNat] [] (by omega) (spI_start _ (by omega))
    have e : toI [s.toNat] = [s] := by simp [toI]; omega
    rw [e] at hi
    exact hi
  · rw [if_neg h, if_neg h]
    exact Gets.pos rfl (Gets.ret rfl)

theorem asc_ext : ∀ A B : List Int, A.Pairwise (· < ·) → B.Pairwise (· < ·) → (∀ x, x ∈ A ↔ x ∈ B) → A = B := by
  intro A
  induction A with
  | nil =>
    intro B _ _ h
    cases B with
    | nil => rfl
    | cons b B => exact absurd ((h b).2 (by simp)) (by simp)
  | cons a A ih =>
    intro B hA hB h
    cases B with
    | nil => exact absurd ((h a).1 (by simp)) (by simp)
    | cons b B =>
      obtain ⟨a1, a2⟩ := List.pairwise_cons.1 hA
      obtain ⟨b1, b2⟩ := List.pairwise_cons.1 hB
      have e : a = b := by
        rcases List.mem_cons.1 ((h a).1 (by simp)) with e | e
        · exact e
        · rcases List.mem_cons.1 ((h b).2 (by simp)) with e2 | e2
          · exact e2.symm
          · have := b1 a e; have := a1 b e2; omega
      subst e
      rw [ih B a2 b2 (fun x => ?_)]
      constructor
      · intro hx
        rcases List.mem_cons.1 ((h x).1 (by simp [hx])) with e | e
        · have := a1 x hx; omega
        · exact e
      · intro hx
        rcases List.mem_cons.1 ((h x).2 (by simp [hx])) with e | e
        · have := b1 x hx; omega
        · exact e

theorem specRoads_l0 (l : List S38) (n : Int) (hl : l.length ≤ 35184372088832) (hn : 1 ≤ n ∧ n ≤ 6) (d : Nat) : ∀ (i : Nat) (pa pb : Int), l.length - i = d → i ≤ l.length → (i = 0 → pa = -1 ∧ pb = -1) → (∀ h : 0 < i, ∀ h2 : i - 1 < l.length, pa = (l[i - 1]'h2).f0 ∧ pb = (l[i - 1]'h2).f1) → Gets (fun k => spec_RoadsOk.l0 k n l (i : Int)) (· = roadsF n pa pb (l.drop i)) := by
  induction d with
  | zero =>
    intro i pa pb hd hi _ _
    refine Gets.step (fun k => spec_RoadsOk.l0.eq_2 ..) (Gets.neg (by omega) (Gets.ret ?_))
    rw [List.drop_of_length_le (by omega)]; rfl
  | succ d ih =>
    intro i pa pb hd hi hp0 hp1
    refine Gets.step (fun k => spec_RoadsOk.l0.eq_2 ..) (Gets.pos (by omega) (Gets.pos (by omega) ?_))
    have e : rd_T38 l (i : Int) = l[i] := rdR_get (by omega)
    have ew : wrap64 (n - 1) = n - 1 := wrapId (by omega) (by omega)
    simp only [e, inS, Option.bind_some, decide_eq_true_eq, ew]
    rw [drop_at l i (by omega), roadsF_cons]
    have hi1 := ih (i + 1) l[i].f0 l[i].f1 (by omega) (by omega) (by omega) (fun _ h2 => ⟨by simp, by simp⟩)
    rw [show (((i + 1 : Nat)) : Int) = (i : Int) + 1 by omega] at hi1
    have hq : 0 < i → ∃ q : S38, rd_T38 l ((i : Int) - 1) = q ∧ pa = q.f0 ∧ pb = q.f1 := fun h => ⟨l[i - 1], by rw [rdR_get (by omega)]; congr 1; omega, (hp1 h (by omega)).1, (hp1 h (by omega)).2⟩
    generalize l[i] = r at e hi1 ⊢
    clear hp1 ih
    generalize hok : decide ((0 ≤ r.f0 ∧ r.f0 < r.f1 ∧ r.f1 < n ∧ 1 ≤ r.f2 ∧ r.f2 ≤ 100) ∧ (pa < r.f0 ∨ (pa = r.f0 ∧ pb < r.f1))) = ok
    have j2 : ∀ c : Bool, (c = true → ¬ ((0 ≤ r.f0 ∧ r.f0 < r.f1 ∧ r.f1 < n ∧ 1 ≤ r.f2 ∧ r.f2 ≤ 100) ∧ (pa < r.f0 ∨ (pa = r.f0 ∧ pb < r.f1)))) → (c = false → ((0 ≤ r.f0 ∧ r.f0 < r.f1 ∧ r.f1 < n ∧ 1 ≤ r.f2 ∧ r.f2 ≤ 100) ∧ (pa < r.f0 ∨ (pa = r.f0 ∧ pb < r.f1)))) → Gets (fun k => spec_RoadsOk.j2 k n l (i : Int) c) (· = (ok && roadsF n r.f0 r.f1 (l.drop (i + 1)))) := fun c h1 h2 => by
      refine Gets.step (fun k => spec_RoadsOk.j2.eq_2 ..) (Gets.ite (fun h => Gets.ret ?_) (fun h => ?_))
      · rw [← hok, decide_eq_false (h1 h)]; rfl
      · rw [wrapId (by omega) (by omega), ← hok, decide_eq_true (h2 (by simpa using h)), Bool.true_and]; exact hi1
    clear hok hi1
    refine Gets.ite (fun h1 => Gets.ite (fun h2 => Gets.ite (fun h3 => j2 _ (fun _ => by omega) (by simp)) (fun h3 => Gets.ite (fun h4 => ?_) (fun h4 => j2 _ (fun _ => by omega) (by simp)))) (fun h2 => j2 _ (fun _ => by omega) (by simp))) (fun h1 => j2 _ (fun _ => by omega) (by simp))
    refine Gets.ite (fun h => ?_) (fun h => j2 _ (by simp) (fun _ => by have := hp0 (by omega); omega))
    obtain ⟨q, e1, hqa, hqb⟩ := hq (by omega)
    rw [wrapId (x := (i : Int) - 1) (by omega) (by omega)]
    simp only [e1]
    refine Gets.pos (by omega) (Gets.pos (by omega) ?_)
    refine Gets.ite (fun h5 => j2 _ (fun _ => by omega) (by simp)) (fun h5 => Gets.ite (fun h6 => j2 _ (fun h7 => ?_) (fun h7 => ?_)) (fun h6 => j2 _ (by simp) (fun _ => by omega)))
    · have := of_decide_eq_true h7; omega
    · have := of_decide_eq_false h7; omega
theorem specRoads (l : List S38) (n : Int) (hl : l.length ≤ 35184372088832) : Gets (fun k => spec_RoadsOk.f k n l) (· = roadsB n l) := by
  unfold spec_RoadsOk.f roadsB
  simp only [inS, Option.bind_some, decide_eq_true_eq]
  have no : ∀ c, c = true → ¬ ((1 ≤ n ∧ n ≤ 6) ∧ (l.length : Int) ≤ 12) → Gets (fun k => spec_RoadsOk.j0 k n l c) (· = (decide ((1 ≤ n ∧ n ≤ 6) ∧ (l.length : Int) ≤ 12) && roadsF n (-1) (-1) l)) := fun c hc h =>
    Gets.step (fun k => spec_RoadsOk.j0.eq_2 ..) (Gets.pos hc (Gets.ret (by rw [decide_eq_false h]; rfl)))
  refine Gets.ite (fun h => ?_) (fun h => no _ rfl (fun h2 => h h2.1))
  by_cases h2 : (l.length : Int) ≤ 12
  · refine Gets.step (fun k => spec_RoadsOk.j0.eq_2 ..) (Gets.neg (by simp; omega) ?_)
    rw [decide_eq_true ⟨h, h2⟩, Bool.true_and]
    exact specRoads_l0 l n hl h l.length 0 (-1) (-1) (by omega) (by omega) (fun _ => ⟨rfl, rfl⟩) (fun h => by omega)
  · exact no _ (by simp; omega) (fun h3 => h2 h3.2)

theorem rdR_at (l : List S38) (i : Nat) (h : i < l.length) : rd_T38 l (i : Int) = l[i] := rdR_get (by simpa using h)
theorem specDist_l2 {n s : Nat} (hn : n ≤ 6) (l : List S38) (hl : ∀ r ∈ l, okR n r) (hlen : l.length ≤ 12) (x9 : Int) (Q : List Int → Prop) (dd : Nat) : ∀ (i : Nat) (d : List Int), l.length - i = dd → i ≤ l.length → dinv n s (waysOf l) d →
    (∀ d', d' = (waysOf (l.drop i)).foldl rx d → Gets (fun k => spec_Distances.l1 k n l d' (wrap64 (x9 + 1))) Q) → Gets (fun k => spec_Distances.l2 k n l d x9 (i : Int)) Q := by
  have hW : ∀ w ∈ waysOf l, wok n w := by have := waysOf_ok hl; simpa using this
  induction dd with
  | zero =>
    intro i d hd hi h k
    refine Gets.step (fun k => spec_Distances.l2.eq_2 ..) (Gets.neg (by omega) (k d ?_))
    rw [List.drop_eq_nil_of_le (by omega)]; rfl
  | succ dd ih =>
    intro i d hd hi h k
    have hil : i < l.length := by omega
    have er := rdR_at l i hil
    have hr := hl l[i] (List.getElem_mem hil)
    generalize hre : l[i] = r at er hr
    obtain ⟨r1, r2, r3, r4, r5⟩ := hr
    have mem : ∀ w ∈ waysR r, w ∈ waysOf l := fun w hw => List.mem_flatMap.2 ⟨r, hre ▸ List.getElem_mem hil, hw⟩
    obtain ⟨e1, e2, e3, l1, l2, l3⟩ := way_test hn h (a := r.f0) (b := r.f1) (c := r.f2) ⟨by omega, by omega⟩ ⟨by omega, by omega⟩ ⟨r4, r5⟩
    have w1 := mem (r.f0.toNat, r.f1.toNat, r.f2) (by simp [waysR])
    have w2 := mem (r.f1.toNat, r.f0.toNat, r.f2) (by simp [waysR])
    have h' := rx_inv h w1 (hW _ w1)
    have h'' := rx_inv h' w2 (hW _ w2)
    have last : Gets (fun k => spec_Distances.l2 k n l (rx (rx d (r.f0.toNat, r.f1.toNat, r.f2)) (r.f1.toNat, r.f0.toNat, r.f2)) x9 (wrap64 ((i : Int) + 1))) Q := by
      rw [wrapId (by omega) (by omega), show (i : Int) + 1 = ((i + 1 : Nat) : Int) by omega]
      refine ih (i + 1) _ (by omega) (by omega) h'' (fun d' hd' => k d' ?_)
      rw [hd', List.drop_eq_getElem_cons hil, hre, waysOf_cons, List.foldl_append]
      rfl
    have six : ∀ b : Bool, (b = true ↔ rxc (rx d (r.f0.toNat, r.f1.toNat, r.f2)) (r.f1.toNat, r.f0.toNat, r.f2)) → Gets (fun k => spec_Distances.j6 k n l (rx d (r.f0.toNat, r.f1.toNat, r.f2)) x9 (i : Int) b r.f0 r.f1 r.f2) Q := by
      intro b hb
      obtain ⟨f1, f2, f3, g1, g2, g3⟩ := way_test hn h' (a := r.f1) (b := r.f0) (c := r.f2) ⟨by omega, by omega⟩ ⟨by omega, by omega⟩ ⟨r4, r5⟩
      refine Gets.step (fun k => spec_Distances.j6.eq_2 ..) (Gets.ite (fun hc => ?_) (fun hc => ?_))
      · refine Gets.pos (by omega) (Gets.pos (by omega) (Gets.pos (by omega) (Gets.pos (by omega) ?_)))
        have e : rx (rx d (r.f0.toNat, r.f1.toNat, r.f2)) (r.f1.toNat, r.f0.toNat, r.f2) = (rx d (r.f0.toNat, r.f1.toNat, r.f2)).set r.f0.toNat (wrap64 (rd (rx d (r.f0.toNat, r.f1.toNat, r.f2)) r.f1 + r.f2)) := by
          rw [f3]; exact rx_yes (hb.1 hc)
        rw [e] at last
        exact last
      · have e : rx (rx d (r.f0.toNat, r.f1.toNat, r.f2)) (r.f1.toNat, r.f0.toNat, r.f2) = rx d (r.f0.toNat, r.f1.toNat, r.f2) := by
          exact rx_no (fun e => hc (hb.2 e))
        rw [e] at last
        exact last
    have five : Gets (fun k => spec_Distances.j5 k n l (rx d (r.f0.toNat, r.f1.toNat, r.f2)) x9 (i : Int) r.f0 r.f1 r.f2) Q := by
      obtain ⟨f1, f2, f3, g1, g2, g3⟩ := way_test hn h' (a := r.f1) (b := r.f0) (c := r.f2) ⟨by omega, by omega⟩ ⟨by omega, by omega⟩ ⟨r4, r5⟩
      refine Gets.step (fun k => spec_Distances.j5.eq_2 ..) (Gets.pos (by omega) (Gets.pos (by omega) (Gets.ite (fun c1 => ?_) (fun c1 => ?_))))
      · refine Gets.pos (by omega) (Gets.pos (by omega) (Gets.ite (fun c2 => six _ ?_) (fun c2 => six _ ?_)))
        · unfold rxc; simp only [true_iff]; exact ⟨by omega, .inl (by omega)⟩
        · unfold rxc; simp only [decide_eq_true_eq]; omega
      · refine six _ ?_
        unfold rxc; simp only [Bool.false_eq_true, false_iff]; omega
    have four : ∀ b : Bool, (b = true ↔ rxc d (r.f0.toNat, r.f1.toNat, r.f2)) → Gets (fun k => spec_Distances.j4 k n l d x9 (i : Int) b r.f0 r.f1 r.f2) Q := by
      intro b hb
      refine Gets.step (fun k => spec_Distances.j4.eq_2 ..) (Gets.ite (fun hc => ?_) (fun hc => ?_))
      · refine Gets.pos (by omega) (Gets.pos (by omega) (Gets.pos (by omega) (Gets.pos (by omega) ?_)))
        have e : rx d (r.f0.toNat, r.f1.toNat, r.f2) = d.set r.f1.toNat (wrap64 (rd d r.f0 + r.f2)) := by
          rw [e3]; exact rx_yes (hb.1 hc)
        rw [e] at five
        exact five
      · have e : rx d (r.f0.toNat, r.f1.toNat, r.f2) = d := by
          exact rx_no (fun e => hc (hb.2 e))
        rw [e] at five
        exact five
    refine Gets.step (fun k => spec_Distances.l2.eq_2 ..) (Gets.pos (by omega) (Gets.pos (by omega) ?_))
    rw [er]
    refine Gets.pos (by omega) (Gets.pos (by omega) (Gets.ite (fun c1 => ?_) (fun c1 => ?_)))
    · refine Gets.pos (by omega) (Gets.pos (by omega) (Gets.ite (fun c2 => four _ ?_) (fun c2 => four _ ?_)))
      · unfold rxc; simp only [true_iff]; exact ⟨by omega, .inl (by omega)⟩
      · unfold rxc; simp only [decide_eq_true_eq]; omega
    · refine four _ ?_
      unfold rxc; simp only [Bool.false_eq_true, false_iff]; omega
theorem specDist_l1 {n s : Nat} (hn : n ≤ 6) (l : List S38) (hl : ∀ r ∈ l, okR n r) (hlen : l.length ≤ 12) (dd : Nat) : ∀ (i : Nat) (d : List Int), n - i = dd → i ≤ n → dinv n s (waysOf l) d →
    Gets (fun k => spec_Distances.l1 k n l d (i : Int)) (· = passes (waysOf l) (n - i) d) := by
  have hW : ∀ w ∈ waysOf l, wok n w := by have := waysOf_ok hl; simpa using this
  induction dd with
  | zero =>
    intro i d hd hi h
    refine Gets.step (fun k => spec_Distances.l1.eq_2 ..) (Gets.neg (by omega) (Gets.ret ?_))
    rw [hd]; rfl
  | succ dd ih =>
    intro i d hd hi h
    refine Gets.step (fun k => spec_Distances.l1.eq_2 ..) (Gets.pos (by omega) ?_)
    refine specDist_l2 hn l hl hlen (i : Int) _ l.length 0 d (by omega) (by omega) h (fun d' hd' => ?_)
    rw [List.drop_zero] at hd'
    rw [wrapId (by omega) (by omega), show (i : Int) + 1 = ((i + 1 : Nat) : Int) by omega]
    have := ih (i + 1) d' (by omega) (by omega) (hd' ▸ (rxm_fold hn (waysOf l) (fun w hw => ⟨hw, hW w hw⟩) d false h).1)
    rw [show n - i = (n - (i + 1)) + 1 by omega]
    unfold passes
    rw [← hd']
    exact this
theorem specDist_l0 {n : Nat} (hn : n ≤ 6) (l : List S38) (hl : ∀ r ∈ l, okR n r) (hlen : l.length ≤ 12) (s : Int) (hs : 0 ≤ s ∧ s < n) (dd : Nat) : ∀ (i : Nat), n - i = dd → i ≤ n →
    Gets (fun k => spec_Distances.l0 k n l s (List.replicate i (-1)) (i : Int)) (· = passes (waysOf l) n (d0 n s.toNat)) := by
  induction dd with
  | zero =>
    intro i hd hi
    obtain rfl : i = n := by omega
    refine Gets.step (fun k => spec_Distances.l0.eq_2 ..) (Gets.neg (by omega) (Gets.pos (by omega) (Gets.pos (by simp; omega) ?_)))
    have := specDist_l1 hn l hl hlen i 0 (d0 i s.toNat) (by omega) (by omega) (d0_inv _ (by omega))
    rw [Nat.sub_zero] at this
    exact this
  | succ dd ih =>
    intro i hd hi
    refine Gets.step (fun k => spec_Distances.l0.eq_2 ..) (Gets.pos (by omega) (Gets.pos (by simp; omega) ?_))
    rw [wrapId (by omega) (by omega), show (i : Int) + 1 = ((i + 1 : Nat) : Int) by omega, ← List.replicate_succ']
    exact ih (i + 1) (by omega) (by omega)
theorem specInP (a b c : Int) : ∃ t, spec_l01In.f a b c = some t ∧ (t = true ↔ b ≤ a ∧ a ≤ c) := by
  unfold spec_l01In.f
  by_cases h : a ≥ b
  · rw [if_pos h]; exact ⟨_, rfl, by simp; omega⟩
  · rw [if_neg h]; exact ⟨_, rfl, by simp; omega⟩
theorem specDistances (n : Int) (l : List S38) (s : Int) (hl : l.length ≤ 35184372088832) : Gets (fun k => spec_Distances.f k n l s) (· = distT n l s) := by
  unfold spec_Distances.f distT
  simp only [Option.bind_some]
  have no : ∀ b, b = true → Gets (fun k => spec_Distances.j0 k n l s [] b) (· = []) := fun b hb => Gets.step (fun k => spec_Distances.j0.eq_2 ..) (Gets.pos hb (Gets.ret rfl))
  refine Gets.bind (specRoads l n hl) (fun t ht => ?_)
  subst ht
  refine Gets.ite (fun h => ?_) (fun h => ?_)
  · obtain ⟨hb, hlen, hok⟩ := roadsB_ok h
    obtain ⟨t, e, ht⟩ := specInP s 0 (n - 1)
    rw [wrapId (x := n - 1) (by omega) (by omega), e]
    simp only [Option.bind_some]
    by_cases h2 : t = true
    · rw [if_pos ⟨h, ht.1 h2⟩, h2]
      have h3 := ht.1 h2
      refine Gets.step (fun k => spec_Distances.j0.eq_2 ..) (Gets.neg (by simp) ?_)
      have e2 : ((n.toNat : Nat) : Int) = n := Int.toNat_of_nonneg (by omega)
      have := specDist_l0 (n := n.toNat) (by omega) l (by rw [e2]; exact hok) hlen s ⟨h3.1, by omega⟩ n.toNat 0 (by omega) (by omega)
      rw [e2] at this
      exact this
    · rw [if_neg (fun e => h2 (ht.2 e.2))]
      exact no _ (by simp at h2; rw [h2]; rfl)
  · rw [if_neg (fun e => h e.1)]
    exact no _ rfl

theorem specCost_l0 (l : List S38) (u v : Int) (hl : l.length ≤ 35184372088832) (dd : Nat) : ∀ i : Nat, l.length - i = dd → i ≤ l.length → Gets (fun k => spec_l07Cost.l0 k l u v (i : Int)) (· = costF (l.drop i) u v) := by
  induction dd with
  | zero =>
    intro i hd hi
    refine Gets.step (fun k => spec_l07Cost.l0.eq_2 ..) (Gets.neg (by omega) (Gets.ret ?_))
    rw [List.drop_eq_nil_of_le (by omega)]; rfl
  | succ dd ih =>
    intro i hd hi
    have hil : i < l.length := by omega
    have er := rdR_at l i hil
    rw [List.drop_eq_getElem_cons hil]
    generalize l[i] = r at er ⊢
    have j1 : ∀ b : Bool, (b = true ↔ (r.f0 = u ∧ r.f1 = v) ∨ (r.f0 = v ∧ r.f1 = u)) → Gets (fun k => spec_l07Cost.j1 k l u v (i : Int) b r.f0 r.f1 r.f2) (· = costF (r :: l.drop (i + 1)) u v) := by
      intro b hb
      refine Gets.step (fun k => spec_l07Cost.j1.eq_2 ..) (Gets.ite (fun h => Gets.ret ?_) (fun h => ?_))
      · unfold costF; rw [if_pos (hb.1 h)]
      · unfold costF; rw [if_neg (fun e => h (hb.2 e)), wrapId (by omega) (by omega), show (i : Int) + 1 = ((i + 1 : Nat) : Int) by omega]
        exact ih (i + 1) (by omega) (by omega)
    refine Gets.step (fun k => spec_l07Cost.l0.eq_2 ..) (Gets.pos (by omega) (Gets.pos (by omega) ?_))
    rw [er]
    refine Gets.ite (fun a => Gets.ite (fun b => j1 _ ?_) (fun b => Gets.ite (fun c => j1 _ ?_) (fun c => j1 _ ?_))) (fun a => Gets.ite (fun c => j1 _ ?_) (fun c => j1 _ ?_))
    · simp [a, b]
    · rw [beq_iff_eq]; omega
    · simp only [Bool.false_eq_true, false_iff]; omega
    · rw [beq_iff_eq]; omega
    · simp only [Bool.false_eq_true, false_iff]; omega
theorem specCost (l : List S38) (u v : Int) (hl : l.length ≤ 35184372088832) : Gets (fun k => spec_l07Cost.f k l u v) (· = costF l u v) := by
  have := specCost_l0 l u v hl l.length 0 (by omega) (by omega)
  rw [List.drop_zero] at this
  exact this
/-- The least of those from m on, as it is looked for downwards. -/
def lowB (P : Nat → Prop) (m n : Nat) (y : Int) : Prop := (y = -1 ∧ ∀ u, m ≤ u → u < n → ¬ P u) ∨ ∃ u, m ≤ u ∧ u < n ∧ P u ∧ y = (u : Int) ∧ ∀ z, m ≤ z → z < n → P z → u ≤ z
theorem lowB_step {P : Nat → Prop} {m n : Nat} {y : Int} (h : lowB P (m + 1) n y) (hm : m < n) : (P m → lowB P m n (m : Int)) ∧ (¬ P m → lowB P m n y) := by
  refine ⟨fun hp => .inr ⟨m, Nat.le_refl _, hm, hp, rfl, fun z hz _ _ => hz⟩, fun hp => ?_⟩
  rcases h with ⟨rfl, h⟩ | ⟨u, h1, h2, h3, rfl, h4⟩
  · refine .inl ⟨rfl, fun u hu hun => ?_⟩
    by_cases e : u = m
    · subst e; exact hp
    · exact h u (by omega) hun
  · refine .inr ⟨u, by omega, h2, h3, rfl, fun z hz hzn hpz => ?_⟩
    by_cases e : z = m
    · subst e; exact absurd hpz hp
    · exact h4 z (by omega) hzn hpz
theorem specTree_l1 {n s : Nat} {l : List S38} (hn : n ≤ 6) {d : List Int} (h : dinv n s (waysOf l) d) (hb : roadsB (n : Int) l = true) (s' : Int) (acc : List Int) (hacc : acc.length ≤ 6) (v : Nat) (hv : v < n) (Q : List Int → Prop) (m : Nat) : ∀ (y : Int), m ≤ n →
    lowB (fun u => (v : Int) ≠ s' ∧ 0 < costF l u v ∧ 0 ≤ dg d u ∧ dg d u + costF l u v = dg d v) m n y →
    (∀ y, lowB (fun u => (v : Int) ≠ s' ∧ 0 < costF l u v ∧ 0 ≤ dg d u ∧ dg d u + costF l u v = dg d v) 0 n y → Gets (fun k => spec_TreeOf.l0 k l s' d (acc ++ [y]) (wrap64 ((v : Int) + 1))) Q) →
    Gets (fun k => spec_TreeOf.l1 k l s' d acc (v : Int) y ((m : Int) - 1)) Q := by
  have hlen : l.length ≤ 12 := (roadsB_ok hb).2.1
  have hok := (roadsB_ok hb).2.2
  have hl := h.1
  induction m with
  | zero =>
    intro y hm hy k
    exact Gets.step (fun k => spec_TreeOf.l1.eq_2 ..) (Gets.neg (by omega) (Gets.pos (by omega) (k y hy)))
  | succ m ih =>
    intro y hm hy k
    have nx := lowB_step hy (by omega)
    have j2 : ∀ b : Bool, (b = true ↔ ((v : Int) ≠ s' ∧ 0 < costF l (m : Int) v ∧ 0 ≤ dg d m ∧ dg d m + costF l (m : Int) v = dg d v)) → Gets (fun k => spec_TreeOf.j2 k l s' d acc (v : Int) y (m : Int) b) Q := by
      intro b hbb
      refine Gets.step (fun k => spec_TreeOf.j2.eq_2 ..) (Gets.ite (fun c => ?_) (fun c => ?_))
      · rw [wrapId (by omega) (by omega)]
        exact ih _ (by omega) (nx.1 (hbb.1 c)) k
      · rw [wrapId (by omega) (by omega)]
        exact ih _ (by omega) (nx.2 (fun e => c (hbb.2 e))) k
    have e0 : ((m + 1 : Nat) : Int) - 1 = (m : Int) := by omega
    rw [e0]
    have em : rd d (m : Int) = dg d m := by have := rd_dg (d := d) (a := (m : Int)) (by simp; omega); simpa using this
    have ev : rd d (v : Int) = dg d v := by have := rd_dg (d := d) (a := (v : Int)) (by simp; omega); simpa using this
    refine Gets.step (fun k => spec_TreeOf.l1.eq_2 ..) (Gets.pos (by omega) ?_)
    refine Gets.bind (specCost l (m : Int) (v : Int) (by omega)) (fun t ht => ?_)
    subst ht
    refine Gets.ite (fun c => j2 _ ?_) (fun c => Gets.ite (fun c2 => Gets.pos (by omega) (Gets.pos (by omega) (Gets.ite (fun c3 => Gets.pos (by omega) (Gets.pos (by omega) (j2 _ ?_))) (fun c3 => j2 _ ?_)))) (fun c2 => j2 _ ?_))
    · simp only [Bool.false_eq_true, false_iff]; exact fun e => e.1 c
    · have hw := ((costF_way hb m v _).2 ⟨c2, rfl⟩)
      have := waysOf_ok hok _ hw
      have hc := this.2.2.2
      have hbd := dinv_bd hn h m
      simp only at hc
      rw [beq_iff_eq, em, ev, wrapId (by omega) (by omega)]
      rw [em] at c3
      exact ⟨fun e => ⟨c, c2, c3, e⟩, fun e => e.2.2.2⟩
    · simp only [Bool.false_eq_true, false_iff]; rw [em] at c3; exact fun e => c3 e.2.2.1
    · simp only [Bool.false_eq_true, false_iff]; exact fun e => c2 e.2.1
theorem specTree_l0 {n s : Nat} {l : List S38} (hn : n ≤ 6) {d : List Int} (h : dinv n s (waysOf l) d) (hb : roadsB (n : Int) l = true) (T : List Int) (hT : T.length = n) (hTb : ∀ v, v < n → tbest s d (waysOf l) v (dg T v)) (dd : Nat) : ∀ v : Nat, n - v = dd → v ≤ n →
    Gets (fun k => spec_TreeOf.l0 k l (s : Int) d (T.take v) (v : Int)) (· = T) := by
  have hl := h.1
  induction dd with
  | zero =>
    intro v hd hv
    refine Gets.step (fun k => spec_TreeOf.l0.eq_2 ..) (Gets.neg (by omega) (Gets.ret ?_))
    rw [List.take_of_length_le (by omega)]
  | succ dd ih =>
    intro v hd hv
    refine Gets.step (fun k => spec_TreeOf.l0.eq_2 ..) (Gets.pos (by omega) ?_)
    rw [wrapId (by omega) (by omega), show ((d.length : Int) - 1) = (n : Int) - 1 by omega]
    refine specTree_l1 hn h hb (s : Int) (T.take v) (by rw [List.length_take]; omega) v (by omega) _ n (-1) (Nat.le_refl _) (.inl ⟨rfl, fun u h1 h2 => by omega⟩) (fun y hy => ?_)
    have hvT : v < T.length := by omega
    have key : tbest s d (waysOf l) v y := by
      have conv : ∀ u : Nat, ((v : Int) ≠ (s : Int) ∧ 0 < costF l u v ∧ 0 ≤ dg d u ∧ dg d u + costF l u v = dg d v) ↔ (u, v, costF l (u : Int) (v : Int)) ∈ waysOf l ∧ tq s d (u, v, costF l (u : Int) (v : Int)) := by
        intro u
        rw [costF_way hb u v]
        unfold tq
        constructor
        · rintro ⟨a, b, c, e⟩; exact ⟨⟨b, rfl⟩, by simp only; omega, c, e⟩
        · rintro ⟨⟨b, _⟩, a, c, e⟩; exact ⟨by simp only at a; omega, b, c, e⟩
      have all : ∀ w ∈ waysOf l, w.2.1 = v → tq s d w → w.1 < n ∧ ((v : Int) ≠ (s : Int) ∧ 0 < costF l w.1 v ∧ 0 ≤ dg d w.1 ∧ dg d w.1 + costF l w.1 v = dg d v) := by
        intro w hw e q
        obtain ⟨w1, w2, w3⟩ := w
        simp only at e
        subst e
        have hk := waysOf_ok (roadsB_ok hb).2.2 _ hw
        have hc := (costF_way hb w1 w2 w3).1 hw
        refine ⟨by have := hk.1; simpa using this, (conv w1).2 ?_⟩
        rw [hc.2]
        exact ⟨hw, q⟩
      rcases hy with ⟨rfl, hy⟩ | ⟨u, h1, h2, h3, rfl, h4⟩
      · exact .inl ⟨rfl, fun w hw e q => hy w.1 (Nat.zero_le _) (all w hw e q).1 (all w hw e q).2⟩
      · have c := (conv u).1 h3
        exact .inr ⟨_, c.1, rfl, c.2, rfl, fun w hw e q => h4 w.1 (Nat.zero_le _) (all w hw e q).1 (all w hw e q).2⟩
    have e := tbest_eq key (hTb v (by omega))
    have e2 : dg T v = T[v] := by unfold dg; rw [List.getD_eq_getElem?_getD, List.getElem?_eq_getElem hvT]; rfl
    rw [e, e2, wrapId (by omega) (by omega), show (v : Int) + 1 = ((v + 1 : Nat) : Int) by omega, ← List.take_succ_eq_append_getElem hvT]
    exact ih (v + 1) (by omega) (by omega)
theorem specTreeOf (n : Int) (l : List S38) (s : Int) (hl : l.length ≤ 35184372088832) : Gets (fun k => spec_TreeOf.f k n l s) (· = treeT n l s) := by
  unfold spec_TreeOf.f treeT
  refine Gets.bind (specDistances n l s hl) (fun d hd => ?_)
  subst hd
  unfold distT
  by_cases h : roadsB n l = true ∧ 0 ≤ s ∧ s ≤ n - 1
  · rw [if_pos h, if_pos h]
    obtain ⟨hb, hlen, hok⟩ := roadsB_ok h.1
    have hW := waysOf_ok hok
    have hD := (dist_spec (n := n.toNat) (s := s.toNat) (by omega) (by omega) hW).1
    have e2 : ((n.toNat : Nat) : Int) = n := Int.toNat_of_nonneg (by omega)
    have := specTree_l0 (n := n.toNat) (s := s.toNat) (by omega) hD (by rw [e2]; exact h.1) (treeOf n l s) (treeOf_length n l s) (fun v hv => tree_best s.toNat _ n.toNat (waysOf l) hW v hv) n.toNat 0 (by omega) (by omega)
    rw [Int.toNat_of_nonneg h.2.1] at this
    exact this
  · rw [if_neg h, if_neg h]
    exact Gets.step (fun k => spec_TreeOf.l0.eq_2 ..) (Gets.neg (by simp) (Gets.ret rfl))

theorem lost_l0 (lst : List (List Int)) (hl : lst.length ≤ 1048576) (u v : Int) (d : Nat) : ∀ i : Nat, lst.length - i = d → i ≤ lst.length → Gets (fun k => spec_l07Lost.l0 k lst u v (i : Int)) (· = (lst.drop i).any (fun p => decide (p = [u, v]))) := by
  induction d with
  | zero =>
    intro i hd hi
    refine Gets.step (fun k => spec_l07Lost.l0.eq_2 ..) (Gets.neg (by omega) (Gets.ret ?_))
    rw [List.drop_eq_nil_of_le (by omega)]; rfl
  | succ d ih =>
    intro i hd hi
    have hil : i < lst.length := by omega
    have e : rd_L3 lst (i : Int) = lst[i] := by
      unfold rd_L3
      rw [Int.toNat_natCast, List.getD_eq_getElem?_getD, List.getElem?_eq_getElem hil]; rfl
    have h2 := ih (i + 1) (by omega) (by omega)
    have fin : ∀ b : Bool, b = decide (lst[i] = [u, v]) → Gets (fun k => spec_l07Lost.j1 k lst u v (i : Int) b) (· = (lst.drop i).any (fun p => decide (p = [u, v]))) := by
      intro b hb
      rw [List.drop_eq_getElem_cons hil, List.any_cons, ← hb]
      refine Gets.step (fun k => spec_l07Lost.j1.eq_2 ..) (Gets.ite (fun h => Gets.ret (by rw [h]; rfl)) (fun h => ?_))
      rw [wrapId (by omega) (by omega), show (i : Int) + 1 = ((i + 1 : Nat) : Int) by omega]
      rw [Bool.not_eq_true] at h
      rw [h, Bool.false_or]
      exact h2
    refine Gets.step (fun k => spec_l07Lost.l0.eq_2 ..) (Gets.pos (by omega) (Gets.pos (by omega) ?_))
    rw [e]
    clear e
    generalize lst[i] = p at fin ⊢
    refine Gets.ite (fun h => ?_) (fun h => fin _ ?_)
    · refine Gets.pos (by omega) (Gets.ite (fun h1 => Gets.pos (by omega) (fin _ ?_)) (fun h1 => fin _ ?_))
      · rcases p with _ | ⟨a, _ | ⟨b, _ | ⟨c, p⟩⟩⟩
        · simp at h
        · simp at h
        · have ha : a = u := h1
          have e1 : rd [a, b] 1 = b := rfl
          rw [e1, ha, Bool.eq_iff_iff]
          simp
        · simp only [List.length_cons] at h; omega
      · rcases p with _ | ⟨a, _ | ⟨b, _ | ⟨c, p⟩⟩⟩
        · simp at h
        · simp at h
        · have ha : ¬ a = u := h1
          simp [ha]
        · simp only [List.length_cons] at h; omega
    · rcases p with _ | ⟨a, _ | ⟨b, _ | ⟨c, p⟩⟩⟩
      · simp
      · simp
      · simp at h
      · simp
theorem specLost (lst : List (List Int)) (hl : lst.length ≤ 1048576) (u v : Nat) : Gets (fun k => spec_l07Lost.f k lst (u : Int) (v : Int)) (· = lostB lst u v) := by
  have := lost_l0 lst hl (u : Int) (v : Int) lst.length 0 (by omega) (by omega)
  rw [List.drop_zero] at this
  exact this
def haveOf (n : Nat) (H : List Nat) : List Bool := (List.range n).map (fun v => decide (v ∈ H))
theorem haveOf_length (n : Nat) (H : List Nat) : (haveOf n H).length = n := by simp [haveOf]
theorem haveOf_add (n : Nat) (H : List Nat) (v : Nat) : (haveOf n H).set v true = haveOf n (H ++ [v]) := by
  refine List.ext_getElem (by simp [haveOf]) (fun i h1 h2 => ?_)
  rw [List.getElem_set]
  simp only [haveOf, List.getElem_map, List.getElem_range, List.mem_append, List.mem_singleton]
  by_cases e : v = i
  · simp [e]
  · rw [if_neg e]
    have e2 : ¬ i = v := fun x => e x.symm
    simp [e2]
theorem haveOf_get {n : Nat} {H : List Nat} {v : Nat} (h : v < n) : rdOf false (haveOf n H) (v : Int) = decide (v ∈ H) := by
  unfold rdOf haveOf
  rw [List.getD_eq_getElem?_getD]
  simp [h]
theorem specSpread_l1 (n : Nat) (lst : List (List Int)) (hlst : lst.length ≤ 1048576) (t : List Int) (u : Nat) (K : List Nat) (hK : K.length ≤ 6) (hKn : ∀ v ∈ K, v < n) (Q : List Int × Int → Prop) (d : Nat) : ∀ (j : Nat) (A T : List Nat) (c : Int), K.length - j = d → j ≤ K.length → T.length + d ≤ 100 → (0 ≤ c ∧ c + d ≤ 100) →
    Gets (fun k => spec_Spread.l0 k (n : Int) lst t (haveOf n (A ++ (K.drop j).filter (fun v => !lostB lst u v))) (toI (T ++ (K.drop j).filter (fun v => !lostB lst u v))) (c + (K.length - j : Nat))) Q → Gets (fun k => spec_Spread.l1 k (n : Int) lst t (haveOf n A) (toI T) c (u : Int) (toI K) (j : Int)) Q := by
  induction d with
  | zero =>
    intro j A T c hd hj hT hc k
    refine Gets.step (fun k => spec_Spread.l1.eq_2 ..) (Gets.neg (by rw [toI_length]; omega) ?_)
    rw [List.drop_eq_nil_of_le (by omega), hd] at k
    simpa using k
  | succ d ih =>
    intro j A T c hd hj hT hc k
    have hjK : j < K.length := by omega
    have hkn := hKn K[j] (List.getElem_mem hjK)
    refine Gets.step (fun k => spec_Spread.l1.eq_2 ..) (Gets.pos (by rw [toI_length]; omega) (Gets.pos (by omega) ?_))
    rw [rd_toI hjK]
    refine Gets.bindE (specLost lst hlst u K[j]).ev ?_
    rw [List.drop_eq_getElem_cons hjK] at k
    rw [wrapId (x := c + 1) (by omega) (by omega), wrapId (x := (j : Int) + 1) (by omega) (by omega), show (j : Int) + 1 = ((j + 1 : Nat) : Int) by omega]
    have ec : c + ((K.length - j : Nat) : Int) = c + 1 + ((K.length - (j + 1) : Nat) : Int) := by omega
    rw [ec] at k
    by_cases hL : lostB lst u K[j] = true
    · refine Gets.pos hL (ih (j + 1) A T (c + 1) (by omega) (by omega) (by omega) (by omega) ?_)
      rw [List.filter_cons_of_neg (by simp [hL])] at k
      exact k
    · refine Gets.neg hL (Gets.pos (by omega) (Gets.pos (by rw [haveOf_length]; omega) (Gets.pos (by rw [toI_length]; omega) ?_)))
      have e2 : toI T ++ [((K[j] : Nat) : Int)] = toI (T ++ [K[j]]) := by rw [toI_append]; rfl
      rw [e2, Int.toNat_natCast, haveOf_add]
      refine ih (j + 1) (A ++ [K[j]]) (T ++ [K[j]]) (c + 1) (by omega) (by omega) (by simp; omega) (by omega) ?_
      rw [List.filter_cons_of_pos (by simp [hL])] at k
      rw [List.append_assoc, List.append_assoc]
      exact k
theorem sortI_asc {l : List Int} (h : l.Nodup) : (sortI l).Pairwise (· < ·) := by
  have h1 : (sortI l).Pairwise (fun x y => decide (x ≤ y) = true) := List.pairwise_mergeSort (fun a b c hab hbc => by simp at *; omega) (fun a b => by simp; omega) l
  have h2 : (sortI l).Nodup := (List.mergeSort_perm l _).nodup_iff.2 h
  exact (h1.and h2).imp (fun ⟨a, b⟩ => by simp at a; omega)
theorem toI_nodup {H : List Nat} (h : H.Nodup) : (toI H).Nodup := by
  unfold toI
  unfold List.Nodup
  rw [List.pairwise_map]
  exact h.imp (fun h => by omega)
theorem sort_filter {n : Nat} {H : List Nat} (h : H.Nodup) (hb : ∀ v ∈ H, v < n) : sortI (toI H) = toI ((List.range n).filter (fun v => decide (v ∈ H))) := by
  refine asc_ext _ _ (sortI_asc (toI_nodup h)) ?_ (fun x => ?_)
  · unfold toI
    rw [List.pairwise_map]
    exact (List.Pairwise.filter _ List.pairwise_lt_range).imp (fun h => by omega)
  · rw [sortI_mem]
    unfold toI
    rw [List.mem_map, List.mem_map]
    constructor
    · rintro ⟨a, h1, h2⟩; exact ⟨a, by simp [h1, hb a h1], h2⟩
    · rintro ⟨a, h1, h2⟩
      rw [List.mem_filter, decide_eq_true_eq] at h1
      exact ⟨a, h1.2, h2⟩
theorem specSpread_l2 (n : Nat) (hn : n ≤ 6) (H : List Nat) (c : Int) (d : Nat) : ∀ (v : Nat) (O : List Nat), n - v = d → v ≤ n → O = (List.range v).filter (fun v => decide (v ∈ H)) →
    Gets (fun k => spec_Spread.l2 k (n : Int) (haveOf n H) c (toI O) (v : Int)) (· = (toI ((List.range n).filter (fun v => decide (v ∈ H))), c)) := by
  induction d with
  | zero =>
    intro v O hd hv hO
    obtain rfl : v = n := by omega
    exact Gets.step (fun k => spec_Spread.l2.eq_2 ..) (Gets.neg (by omega) (Gets.ret (by rw [hO])))
  | succ d ih =>
    intro v O hd hv hO
    have hol : O.length ≤ v := by
      rw [hO]
      have := List.length_filter_le (fun v => decide (v ∈ H)) (List.range v)
      simpa using this
    refine Gets.step (fun k => spec_Spread.l2.eq_2 ..) (Gets.pos (by omega) (Gets.pos (by omega) (Gets.pos (by rw [haveOf_length]; omega) ?_)))
    rw [haveOf_get (by omega), wrapId (by omega) (by omega), show (v : Int) + 1 = ((v + 1 : Nat) : Int) by omega]
    refine Gets.ite (fun h => Gets.pos (by rw [toI_length]; omega) ?_) (fun h => ?_)
    · have e2 : toI O ++ [(v : Int)] = toI (O ++ [v]) := by rw [toI_append]; rfl
      rw [e2]
      refine ih (v + 1) (O ++ [v]) (by omega) (by omega) ?_
      rw [List.range_succ, List.filter_append, List.filter_cons_of_pos (p := fun v => decide (v ∈ H)) h, hO]; rfl
    · refine ih (v + 1) O (by omega) (by omega) ?_
      rw [List.range_succ, List.filter_append, List.filter_cons_of_neg (p := fun v => decide (v ∈ H)) h, hO]; simp
theorem specSpread_l0 (lst : List (List Int)) (hlst : lst.length ≤ 1048576) (t : List Int) (ht : t.length ≤ 6) (s : Nat) (hs : dg t s = -1) (d : Nat) : ∀ (i : Nat) (H K : List Nat), t.length - i = d → spI t (lostB lst) s H i K →
    Gets (fun k => spec_Spread.l0 k (t.length : Int) lst t (haveOf t.length H) (toI (H.drop i)) (K.length : Int)) (· = (sortI (toI (spRun t (lostB lst) d H i K).1), ((spRun t (lostB lst) d H i K).2.length : Int))) := by
  have fin : ∀ (H : List Nat) (c : Int), H.Nodup → (∀ v ∈ H, v < t.length) → Gets (fun k => spec_Spread.l2 k (t.length : Int) (haveOf t.length H) c [] 0) (· = (sortI (toI H), c)) := fun H c h1 h2 => by
    rw [sort_filter h1 h2]
    exact specSpread_l2 t.length ht H c t.length 0 [] (by omega) (by omega) rfl
  induction d with
  | zero =>
    intro i H K hd h
    have hb := spI_bd h
    have hle := h.le
    refine Gets.step (fun k => spec_Spread.l0.eq_2 ..) (Gets.neg (by rw [toI_length, List.length_drop]; omega) ?_)
    exact fin H _ h.nd h.bd
  | succ d ih =>
    intro i H K hd h
    have hb := spI_bd h
    unfold spRun
    by_cases hi : i < H.length
    · rw [dif_pos hi]
      refine Gets.step (fun k => spec_Spread.l0.eq_2 ..) (Gets.pos (by rw [toI_length, List.length_drop]; omega) (Gets.pos (by rw [toI_length, List.length_drop]; omega) (Gets.pos (by rw [toI_length, List.length_drop]; omega) ?_)))
      have e0 : rd (toI (H.drop i)) 0 = ((H[i] : Nat) : Int) := by
        rw [List.drop_eq_getElem_cons hi]; rfl
      have e1 : (toI (H.drop i)).drop (1 : Int).toNat = toI (H.drop (i + 1)) := by
        rw [List.drop_eq_getElem_cons hi]; rfl
      rw [e0, e1]
      refine Gets.bindE (specChildren t _ (by omega)).ev ?_
      rw [kids_eq]
      have hst := spI_step hs h hi
      have hb2 := spI_bd hst
      have hkl : (kidsN t H[i]).length ≤ 6 := by rw [List.length_append, List.length_append] at hb2; omega
      have h2 := ih (i + 1) _ _ (by omega) hst
      rw [List.drop_append_of_le_length (by omega)] at h2
      refine specSpread_l1 t.length lst hlst t H[i] (kidsN t H[i]) hkl (fun v hv => (kidsN_mem.1 hv).1) _ _ 0 H (H.drop (i + 1)) (K.length : Int) rfl (by omega) (by rw [List.length_drop]; omega) (by omega) ?_
      rw [List.drop_zero]
      rw [List.length_append] at h2
      have e : (K.length : Int) + (((kidsN t H[i]).length - 0 : Nat) : Int) = ((K.length + (kidsN t H[i]).length : Nat) : Int) := by omega
      rw [e]
      exact h2
    · rw [dif_neg hi]
      refine Gets.step (fun k => spec_Spread.l0.eq_2 ..) (Gets.neg (by rw [toI_length, List.length_drop]; omega) ?_)
      exact fin H _ h.nd h.bd
theorem specSpread (n : Int) (l : List S38) (s : Int) (lst : List (List Int)) (hl : l.length ≤ 35184372088832) (hlst : lst.length ≤ 1048576) : Gets (fun k => spec_Spread.f k n l s lst) (· = spreadT n l s lst) := by
  unfold spec_Spread.f spreadT
  refine Gets.bindE (specTreeOf n l s hl).ev ?_
  unfold treeT
  by_cases h : roadsB n l = true ∧ 0 ≤ s ∧ s ≤ n - 1
  · rw [if_pos h, if_pos h]
    have hb := (roadsB_ok h.1).1
    have hT := treeOf_length n l s
    refine Gets.neg (by omega) (Gets.pos (by omega) (Gets.pos (by omega) ?_))
    simp only [Option.bind_some]
    refine Gets.pos (by omega) (Gets.pos (by rw [List.length_replicate]; omega) ?_)
    have hi := specSpread_l0 lst hlst (treeOf n l s) (by omega) s.toNat (treeOf_root h.1 h.2) (treeOf n l s).length 0 [s.toNat] [] (by omega) (spI_start _ (by omega))
    have e : toI [s.toNat] = [s] := by simp [toI]; omega
    have e2 : haveOf (treeOf n l s).length [s.toNat] = (List.replicate n.toNat false).set s.toNat true := by
      rw [hT]
      have := haveOf_add n.toNat [] s.toNat
      rw [List.nil_append] at this
      rw [← this]
      congr 1
      simp [haveOf, List.map_const']
    have e3 : ((treeOf n l s).length : Int) = n := by omega
    rw [List.drop_zero, e, e2, e3] at hi
    exact hi
  · rw [if_neg h, if_neg h]
    exact Gets.pos rfl (Gets.ret rfl)

theorem szRoadS (l : List S53) (m : Int) (hm : 0 ≤ m ∧ m ≤ 9000000) (hl : l.length ≤ maxLen) : laws_szRoadS.f l m = some (if m - l.length < 0 then -1 else m - l.length) := by
  unfold maxLen at hl
  unfold laws_szRoadS.f
  rw [wrapId (by omega) (by omega)]
  split <;> rfl

theorem toRoadS_l0 (l : List S53) (hl : l.length ≤ 11728124029610) (d : Nat) : ∀ i : Nat, l.length - i = d → i ≤ l.length → Gets (fun k => laws_toRoadS.l0 k l ((l.map cvR).take i ++ List.replicate ((l.map cvR).length - i) z38) (i : Int)) (· = l.map cvR) := by
  induction d with
  | zero =>
    intro i hd hi
    refine Gets.step (fun k => laws_toRoadS.l0.eq_2 ..) (Gets.neg (by omega) (Gets.ret ?_))
    rw [List.take_of_length_le (by simp; omega), show (l.map cvR).length - i = 0 by simp; omega]
    simp
  | succ d ih =>
    intro i hd hi
    refine Gets.step (fun k => laws_toRoadS.l0.eq_2 ..) (Gets.pos (by omega) (Gets.pos (by omega) ?_))
    simp only [laws_toRoad.f, Option.bind_some]
    refine Gets.pos (by simp; omega) ?_
    rw [rdRl_get (by omega), wrapId (by omega) (by omega)]
    simp only [Int.toNat_natCast]
    have e : (⟨l[i].f0, l[i].f1, l[i].f2⟩ : S38) = (l.map cvR)[i]'(by simp; omega) := by simp [cvR]
    rw [e, fill_step (l.map cvR) z38 i (by simp; omega), show ((i : Int) + 1) = ((i + 1 : Nat) : Int) by omega]
    exact ih (i + 1) (by omega) (by omega)
theorem toRoadS (l : List S53) (hl : l.length ≤ 11728124029610) : Gets (fun k => laws_toRoadS.f k l) (· = l.map cvR) := by
  unfold laws_toRoadS.f
  refine Gets.pos (by omega) (Gets.pos (by omega) ?_)
  have h := toRoadS_l0 l hl l.length 0 (by omega) (by omega)
  simpa using h

theorem eqRoad (m n : S38) : laws_eqRoad.f m.f0 m.f1 m.f2 n.f0 n.f1 n.f2  = some true ↔ m = n := by
  unfold laws_eqRoad.f
  constructor
  · intro h
    repeat' (split at h)
    all_goals (first | (cases h; done) | skip)
    rename_i h0 h1 h2
    cases m; cases n
    simp only at h0 h1 h2
    subst h0 h1 h2
    rfl
  · rintro rfl
    simp
theorem eqRoad_some (m n : S38) : ∃ b, laws_eqRoad.f m.f0 m.f1 m.f2 n.f0 n.f1 n.f2  = some b := by
  unfold laws_eqRoad.f
  repeat' split
  all_goals exact ⟨_, rfl⟩
theorem eqRoad_gets (m n : S38) : Gets (fun _ => laws_eqRoad.f m.f0 m.f1 m.f2 n.f0 n.f1 n.f2 ) (fun b => b = true ↔ m = n) := by
  obtain ⟨b, hb⟩ := eqRoad_some m n
  refine Gets.same hb ?_
  rw [← eqRoad m n, hb]
  simp
theorem eqRoadS_l0 (a b : List S38) (ha : a.length ≤ 35184372088832) (hab : a.length = b.length) (d : Nat) : ∀ i : Nat, a.length - i = d → i ≤ a.length → Gets (fun k => laws_eqRoadS.l0 k a b (i : Int)) (fun r => r = true ↔ a.drop i = b.drop i) := by
  induction d with
  | zero =>
    intro i hd hi
    refine Gets.step (fun k => laws_eqRoadS.l0.eq_2 ..) (Gets.neg (by omega) (Gets.ret ?_))
    rw [List.drop_of_length_le (by omega), List.drop_of_length_le (by omega)]
    simp
  | succ d ih =>
    intro i hd hi
    refine Gets.step (fun k => laws_eqRoadS.l0.eq_2 ..) (Gets.pos (by omega) (Gets.pos (by omega) (Gets.pos (by omega) ?_)))
    rw [rdR_get (by omega), rdR_get (by omega), wrapId (by omega) (by omega)]
    simp only [Int.toNat_natCast]
    rw [drop_at a i (by omega), drop_at b i (by omega)]
    refine Gets.bind (eqRoad_gets _ _) (fun t ht => ?_)
    refine Gets.ite (fun h => ?_) (fun h => Gets.ret ?_)
    · rw [show ((i : Int) + 1) = ((i + 1 : Nat) : Int) by omega]
      refine (ih (i + 1) (by omega) (by omega)).mono (fun r hr => ?_)
      rw [hr]
      simp only [List.cons.injEq, ht.1 h, true_and]
    · have hne : ¬ a[i] = b[i] := fun e => h (ht.2 e)
      simp only [List.cons.injEq, hne, false_and, Bool.false_eq_true]
theorem eqRoadS (a b : List S38) (ha : a.length ≤ 35184372088832) : Gets (fun k => laws_eqRoadS.f k a b) (fun r => r = true ↔ a = b) := by
  unfold laws_eqRoadS.f
  refine Gets.ite (fun h => ?_) (fun h => Gets.ret ?_)
  · exact eqRoadS_l0 a b ha (by omega) a.length 0 (by omega) (by omega)
  · simp only [Bool.false_eq_true, false_iff]
    rintro rfl
    exact h rfl
theorem eqRoadS_true (a : List S38) (ha : a.length ≤ 35184372088832) : Gets (fun k => laws_eqRoadS.f k a a) (fun r => r = true) := (eqRoadS a a ha).mono (fun r hr => hr.2 rfl)

def markR (k : Int) : S38 := ⟨k, k + 1, k + 2⟩
theorem rdR_set {l : List S38} {i : Nat} {v : S38} (h : i < l.length) : rd_T38 (l.set i v) (i : Int) = v := by
  rw [rdR_get (by simp; omega)]; simp
theorem markRoadS_l0 (n : Nat) (m : Int) (hn : n ≤ 9000000) (hm : 0 ≤ m ∧ m ≤ 9000000) (d : Nat) : ∀ (i : Nat) (l : List S38), n - i = d → i ≤ n → l.length = n → Gets (fun k => laws_markRoadS.l0 k l (m + 3 * i) (i : Int)) (fun r => r.1 = m + 3 * n) := by
  induction d with
  | zero =>
    intro i l hd hi hl
    refine Gets.step (fun k => laws_markRoadS.l0.eq_2 ..) (Gets.neg (by omega) (Gets.ret ?_))
    simp only; omega
  | succ d ih =>
    intro i l hd hi hl
    refine Gets.step (fun k => laws_markRoadS.l0.eq_2 ..) (Gets.pos (by omega) (Gets.pos (by omega) ?_))
    simp only [Option.bind_some]
    rw [wrapId (x := m + 3 * (i : Int) + 1) (by omega) (by omega), wrapId (x := m + 3 * (i : Int) + 1 + 1) (by omega) (by omega), wrapId (x := m + 3 * (i : Int) + 1 + 1 + 1) (by omega) (by omega), wrapId (x := (i : Int) + 1) (by omega) (by omega)]
    rw [show ((i : Int) + 1) = ((i + 1 : Nat) : Int) by omega, show m + 3 * (i : Int) + 1 + 1 + 1 = m + 3 * ((i + 1 : Nat) : Int) by omega]
    exact ih (i + 1) _ (by omega) (by omega) (by simpa using hl)
theorem markRoadS (l : List S38) (m : Int) (hn : l.length ≤ 9000000) (hm : 0 ≤ m ∧ m ≤ 9000000) : Gets (fun k => laws_markRoadS.f k l m) (fun r => r.1 = m + 3 * l.length) := by
  unfold laws_markRoadS.f
  have h := markRoadS_l0 l.length m hn hm l.length 0 l (by omega) (by omega) rfl
  simpa using h

theorem szIntS (l : List Int) (m : Int) (hm : 0 ≤ m ∧ m ≤ 9000000) (hl : l.length ≤ maxLen) : laws_szIntS.f l m = some (if m - l.length < 0 then -1 else m - l.length) := by
  unfold maxLen at hl
  unfold laws_szIntS.f
  rw [wrapId (by omega) (by omega)]
  split <;> rfl

theorem toIntS_l0 (l : List Int) (hl : l.length ≤ 35184372088832) (d : Nat) : ∀ i : Nat, l.length - i = d → i ≤ l.length → Gets (fun k => laws_toIntS.l0 k l (l.take i ++ List.replicate (l.length - i) 0) (i : Int)) (· = l) := by
  induction d with
  | zero =>
    intro i hd hi
    refine Gets.step (fun k => laws_toIntS.l0.eq_2 ..) (Gets.neg (by omega) (Gets.ret ?_))
    rw [show i = l.length by omega]
    simp
  | succ d ih =>
    intro i hd hi
    refine Gets.step (fun k => laws_toIntS.l0.eq_2 ..) (Gets.pos (by omega) (Gets.pos (by omega) (Gets.pos (by simp; omega) ?_)))
    rw [rd_get (by omega), wrapId (by omega) (by omega)]
    simp only [Int.toNat_natCast]
    rw [fill_step l 0 i (by omega), show ((i : Int) + 1) = ((i + 1 : Nat) : Int) by omega]
    exact ih (i + 1) (by omega) (by omega)
theorem toIntS (l : List Int) (hl : l.length ≤ 35184372088832) : Gets (fun k => laws_toIntS.f k l) (· = l) := by
  unfold laws_toIntS.f
  refine Gets.pos (by omega) (Gets.pos (by omega) ?_)
  exact toIntS_l0 l hl l.length 0 (by omega) (by omega)

theorem eqIntS_l0 (a b : List Int) (ha : a.length ≤ 35184372088832) (hab : a.length = b.length) (d : Nat) : ∀ i : Nat, a.length - i = d → i ≤ a.length → Gets (fun k => laws_eqIntS.l0 k a b (i : Int)) (fun r => r = true ↔ a.drop i = b.drop i) := by
  induction d with
  | zero =>
    intro i hd hi
    refine Gets.step (fun k => laws_eqIntS.l0.eq_2 ..) (Gets.neg (by omega) (Gets.ret ?_))
    rw [List.drop_of_length_le (by omega), List.drop_of_length_le (by omega)]
    simp
  | succ d ih =>
    intro i hd hi
    refine Gets.step (fun k => laws_eqIntS.l0.eq_2 ..) (Gets.pos (by omega) (Gets.pos (by omega) (Gets.pos (by omega) ?_)))
    rw [rd_get (by omega), rd_get (by omega), wrapId (by omega) (by omega)]
    simp only [Int.toNat_natCast]
    rw [drop_at a i (by omega), drop_at b i (by omega)]
    refine Gets.ite (fun h => ?_) (fun h => Gets.ret ?_)
    · rw [show ((i : Int) + 1) = ((i + 1 : Nat) : Int) by omega]
      refine (ih (i + 1) (by omega) (by omega)).mono (fun r hr => ?_)
      rw [hr]
      simp only [List.cons.injEq, h, true_and]
    · simp only [List.cons.injEq, h, false_and, Bool.false_eq_true]
theorem eqIntS (a b : List Int) (ha : a.length ≤ 35184372088832) : Gets (fun k => laws_eqIntS.f k a b) (fun r => r = true ↔ a = b) := by
  unfold laws_eqIntS.f
  refine Gets.ite (fun h => ?_) (fun h => Gets.ret ?_)
  · exact eqIntS_l0 a b ha (by omega) a.length 0 (by omega) (by omega)
  · simp only [Bool.false_eq_true, false_iff]
    rintro rfl
    exact h rfl
theorem eqIntS_true (a : List Int) (ha : a.length ≤ 35184372088832) : Gets (fun k => laws_eqIntS.f k a a) (fun r => r = true) := (eqIntS a a ha).mono (fun r hr => hr.2 rfl)

theorem markIntS_l0 (n : Nat) (m : Int) (hn : n ≤ 35184372088832) (hm : 0 ≤ m ∧ m ≤ 35184372088832) (d : Nat) : ∀ (i : Nat) (l : List Int), n - i = d → i ≤ n → l.length = n → l.take i = marks m i → Gets (fun k => laws_markIntS.l0 k l (m + i) (i : Int)) (· = (m + n, marks m n)) := by
  induction d with
  | zero =>
    intro i l hd hi hl ht
    refine Gets.step (fun k => laws_markIntS.l0.eq_2 ..) (Gets.neg (by omega) (Gets.ret ?_))
    obtain rfl : i = n := by omega
    rw [List.take_of_length_le (by omega)] at ht
    rw [ht]
  | succ d ih =>
    intro i l hd hi hl ht
    refine Gets.step (fun k => laws_markIntS.l0.eq_2 ..) (Gets.pos (by omega) (Gets.pos (by omega) ?_))
    rw [wrapId (by omega) (by omega), wrapId (by omega) (by omega)]
    simp only [Int.toNat_natCast]
    rw [show ((i : Int) + 1) = ((i + 1 : Nat) : Int) by omega, show m + (i : Int) + 1 = m + ((i + 1 : Nat) : Int) by omega]
    refine ih (i + 1) _ (by omega) (by omega) (by simpa using hl) ?_
    have hlt : i < (l.set i (m + i)).length := by rw [List.length_set]; omega
    rw [List.take_succ_eq_append_getElem hlt, List.getElem_set_self, List.take_set_of_le (by omega), ht]
    simp [marks, List.range_succ]
theorem markIntS (l : List Int) (m : Int) (hn : l.length ≤ 35184372088832) (hm : 0 ≤ m ∧ m ≤ 35184372088832) : Gets (fun k => laws_markIntS.f k l m) (· = (m + l.length, marks m l.length)) := by
  unfold laws_markIntS.f
  have h := markIntS_l0 l.length m hn hm l.length 0 l (by omega) (by omega) rfl (by simp [marks])
  simpa using h

theorem heldIntS_l0 (n : Nat) (m : Int) (hn : n ≤ 35184372088832) (hm : 0 ≤ m ∧ m ≤ 35184372088832) (d : Nat) : ∀ (i : Nat), n - i = d → i ≤ n → Gets (fun k => laws_heldIntS.l0 k (marks m n) (m + i) (i : Int)) (· = m + n) := by
  induction d with
  | zero =>
    intro i hd hi
    refine Gets.step (fun k => laws_heldIntS.l0.eq_2 ..) (Gets.neg (by rw [marks_length]; omega) (Gets.ret ?_))
    rw [show i = n by omega]
  | succ d ih =>
    intro i hd hi
    refine Gets.step (fun k => laws_heldIntS.l0.eq_2 ..) (Gets.pos (by rw [marks_length]; omega) (Gets.pos (by omega) ?_))
    rw [rd_get (by rw [marks_length]; omega), wrapId (by omega) (by omega), wrapId (by omega) (by omega)]
    refine Gets.pos (by simp only [Int.toNat_natCast]; exact marks_get m n i (by omega)) ?_
    rw [show ((i : Int) + 1) = ((i + 1 : Nat) : Int) by omega, show m + (i : Int) + 1 = m + ((i + 1 : Nat) : Int) by omega]
    exact ih (i + 1) (by omega) (by omega)
theorem heldIntS (m : Int) (n : Nat) (hn : n ≤ 35184372088832) (hm : 0 ≤ m ∧ m ≤ 35184372088832) : Gets (fun k => laws_heldIntS.f k (marks m n) m) (· = m + n) := by
  unfold laws_heldIntS.f
  have h := heldIntS_l0 n m hn hm n 0 (by omega) (by omega)
  simpa using h

theorem rdL3_get {l : List (List Int)} {i : Nat} (h : i < l.length) : rd_L3 l (i : Int) = l[i] := by
  unfold rd_L3
  rw [Int.toNat_natCast, List.getD_eq_getElem?_getD, List.getElem?_eq_getElem h]; rfl
theorem szIntSS_l0 (ls : List (List Int)) (hls : ls.length ≤ 1048576) (hg : ∀ l ∈ ls, l.length ≤ maxLen) (d : Nat) : ∀ (i : Nat) (m : Int), ls.length - i = d → i ≤ ls.length → 0 ≤ m → m ≤ 1048576 → Gets (fun k => laws_szIntSS.l0 k ls m (i : Int)) (fun r => r < 0 ∨ (0 ≤ r ∧ r + (((ls.drop i).map List.length).sum : Nat) ≤ m)) := by
  induction d with
  | zero =>
    intro i m hd hi h0 h1
    refine Gets.step (fun k => laws_szIntSS.l0.eq_2 ..) (Gets.neg (by omega) (Gets.ret (.inr ⟨h0, ?_⟩)))
    rw [List.drop_eq_nil_of_le (by omega)]; simp
  | succ d ih =>
    intro i m hd hi h0 h1
    have hil : i < ls.length := by omega
    have e : rd_L3 ls (i : Int) = ls[i] := rdL3_get hil
    have hgi := hg ls[i] (List.getElem_mem hil)
    refine Gets.step (fun k => laws_szIntSS.l0.eq_2 ..) (Gets.pos (by omega) (Gets.pos (by omega) ?_))
    rw [e, szIntS ls[i] m (by omega) hgi]
    simp only [Option.bind_some]
    by_cases h : m - (ls[i].length : Int) < 0
    · rw [if_pos h]
      exact Gets.pos (by omega) (Gets.ret (.inl (by omega)))
    · rw [if_neg h]
      refine Gets.neg h ?_
      rw [wrapId (by omega) (by omega), show (i : Int) + 1 = ((i + 1 : Nat) : Int) by omega]
      refine (ih (i + 1) _ (by omega) (by omega) (by omega) (by omega)).mono (fun q hq => ?_)
      rcases hq with hq | ⟨q1, q2⟩
      · exact .inl hq
      · refine .inr ⟨q1, ?_⟩
        rw [List.drop_eq_getElem_cons hil, List.map_cons, List.sum_cons]; omega
theorem sum_mem (ls : List (List Int)) : ∀ l ∈ ls, l.length ≤ (ls.map List.length).sum := by
  induction ls with
  | nil => intro l h; cases h
  | cons x ls ih =>
    intro l h
    rw [List.map_cons, List.sum_cons]
    rcases List.mem_cons.1 h with rfl | h
    · omega
    · have := ih l h; omega
theorem szIntSS (ls : List (List Int)) (m : Int) (h0 : 0 ≤ m) (h1 : m ≤ 1048576) (hls : ls.length ≤ maxLen) (hg : ∀ l ∈ ls, l.length ≤ maxLen) : Gets (fun k => laws_szIntSS.f k ls m) (fun r => r < 0 ∨ (ls.length ≤ 1048576 ∧ (ls.map List.length).sum ≤ 1048576)) := by
  unfold maxLen at hls
  unfold laws_szIntSS.f
  rw [wrapId (by omega) (by omega)]
  refine Gets.ite (fun h => Gets.ret (.inl (by omega))) (fun h => ?_)
  refine (szIntSS_l0 ls (by omega) hg ls.length 0 _ (by omega) (by omega) (by omega) (by omega)).mono (fun r hr => ?_)
  rcases hr with hr | ⟨h2, h3⟩
  · exact .inl hr
  · exact .inr ⟨by omega, by simp only [List.drop_zero] at h3; omega⟩
theorem toIntSS_l0 (ls : List (List Int)) (hls : ls.length ≤ 1048576) (hg : ∀ l ∈ ls, l.length ≤ 1048576) (d : Nat) : ∀ i : Nat, ls.length - i = d → i ≤ ls.length → Gets (fun k => laws_toIntSS.l0 k ls (ls.take i ++ List.replicate (ls.length - i) []) (i : Int)) (· = ls) := by
  induction d with
  | zero =>
    intro i hd hi
    obtain rfl : i = ls.length := by omega
    refine Gets.step (fun k => laws_toIntSS.l0.eq_2 ..) (Gets.neg (by omega) (Gets.ret ?_))
    rw [List.take_of_length_le (by omega), Nat.sub_self]; simp
  | succ d ih =>
    intro i hd hi
    have hil : i < ls.length := by omega
    have e : rd_L3 ls (i : Int) = ls[i] := rdL3_get hil
    have hgi := hg ls[i] (List.getElem_mem hil)
    refine Gets.step (fun k => laws_toIntSS.l0.eq_2 ..) (Gets.pos (by omega) (Gets.pos (by omega) ?_))
    rw [e]
    refine Gets.bindE (toIntS ls[i] (by omega)).ev (Gets.pos (by simp; omega) ?_)
    rw [wrapId (by omega) (by omega), show (i : Int) + 1 = ((i + 1 : Nat) : Int) by omega, Int.toNat_natCast, fill_step ls [] i hil]
    exact ih (i + 1) (by omega) (by omega)
theorem toIntSS (ls : List (List Int)) (hls : ls.length ≤ 1048576) (hg : ∀ l ∈ ls, l.length ≤ 1048576) : Gets (fun k => laws_toIntSS.f k ls) (· = ls) := by
  unfold laws_toIntSS.f
  refine Gets.pos (by omega) (Gets.pos (by omega) ?_)
  have := toIntSS_l0 ls hls hg ls.length 0 (by omega) (by omega)
  simpa using this
theorem eqIntSS_l0 (ls : List (List Int)) (hls : ls.length ≤ 1048576) (hg : ∀ l ∈ ls, l.length ≤ 1048576) (d : Nat) : ∀ i : Nat, ls.length - i = d → i ≤ ls.length → Gets (fun k => laws_eqIntSS.l0 k ls ls (i : Int)) (· = true) := by
  induction d with
  | zero => intro i hd hi; exact Gets.step (fun k => laws_eqIntSS.l0.eq_2 ..) (Gets.neg (by omega) (Gets.ret rfl))
  | succ d ih =>
    intro i hd hi
    have hil : i < ls.length := by omega
    have e : rd_L3 ls (i : Int) = ls[i] := rdL3_get hil
    have hgi := hg ls[i] (List.getElem_mem hil)
    refine Gets.step (fun k => laws_eqIntSS.l0.eq_2 ..) (Gets.pos (by omega) (Gets.pos (by omega) (Gets.pos (by omega) ?_)))
    rw [e, wrapId (by omega) (by omega), show (i : Int) + 1 = ((i + 1 : Nat) : Int) by omega]
    exact Gets.bind (eqIntS_true ls[i] (by omega)) (fun t ht => Gets.pos ht (ih (i + 1) (by omega) (by omega)))
theorem eqIntSS (ls : List (List Int)) (hls : ls.length ≤ 1048576) (hg : ∀ l ∈ ls, l.length ≤ 1048576) : Gets (fun k => laws_eqIntSS.f k ls ls) (· = true) := by
  unfold laws_eqIntSS.f
  exact Gets.pos rfl (eqIntSS_l0 ls hls hg ls.length 0 (by omega) (by omega))
theorem markIntSS_go (ls : List (List Int)) : ∀ (m : Int), (∀ l ∈ ls, l.length ≤ 1048576) → 0 ≤ m → m + (ls.map List.length).sum ≤ 35184372088832 → Gets (fun k => laws_markIntSS.go k ls m) (fun r => r = m + (ls.map List.length).sum) := by
  induction ls with
  | nil => intro m _ _ _; exact Gets.ret (by simp)
  | cons l ls ih =>
    intro m hg h0 h1
    simp only [List.map_cons, List.sum_cons] at h1 ⊢
    have hl := hg l (by simp)
    unfold laws_markIntSS.go
    refine Gets.bindE (markIntS l m (by omega) (by omega)).ev ?_
    simp only
    refine (ih (m + l.length) (fun x hx => hg x (by simp [hx])) (by omega) (by omega)).mono (fun r hr => ?_)
    rw [hr]; omega
theorem markIntSS (ls : List (List Int)) (m : Int) (h0 : 0 ≤ m ∧ m ≤ 9000000) (h1 : ls.length ≤ 1048576) (h2 : ∀ l ∈ ls, l.length ≤ 1048576) (h3 : (ls.map List.length).sum ≤ 1048576) : Gets (fun k => laws_markIntSS.f k ls m) (fun r => r = m + (ls.map List.length).sum) := by
  unfold laws_markIntSS.f
  exact Gets.pos (by omega) (markIntSS_go ls m h2 (by omega) (by omega))
theorem spreadT_length {n : Int} {l : List S38} {s : Int} {lst : List (List Int)} : (spreadT n l s lst).1.length ≤ 6 := by
  unfold spreadT
  by_cases h : roadsB n l = true ∧ 0 ≤ s ∧ s ≤ n - 1
  · rw [if_pos h]
    have hb := (roadsB_ok h.1).1
    have hT := treeOf_length n l s
    have := (spI_bd (spreadOf_end lst h.1 h.2)).1
    simp only [sortI_length, toI_length]
    omega
  · rw [if_neg h]; simp
theorem FnExactSpread : Stat.FnExactSpread := by
  intro n l s ls _ hl _ hls
  refine Gets.rounds ?_
  unfold laws_FnExactSpread.f
  rw [szRoadS l _ (by omega) hl.1]
  simp only [Option.bind_some]
  have hn2 : (l.map cvR).length = l.length := by simp
  refine Gets.ite (fun _ => Gets.ret rfl) (fun h => ?_)
  have h0 : ¬ (1048576 : Int) - l.length < 0 := fun h1 => h (by rw [if_pos h1]; decide)
  rw [if_neg h0]
  refine Gets.bind (szIntSS ls _ (by omega) (by omega) hls.1 (fun x hx => (hls.2 x hx).1)) (fun r hr => ?_)
  refine Gets.ite (fun _ => Gets.ret rfl) (fun h2 => ?_)
  obtain ⟨h3, h4⟩ := hr.resolve_left h2
  have hin : ∀ x ∈ ls, x.length ≤ 1048576 := fun x hx => by have := sum_mem ls x hx; omega
  have tr := (toRoadS l (by omega)).ev
  have ti := (toIntSS ls h3 hin).ev
  have hw := spreadT_length (n := n) (l := l.map cvR) (s := s) (lst := ls)
  have io := (implSpread n (l.map cvR) s ls (by omega) h3).ev
  refine Gets.bindE tr (Gets.bindE ti (Gets.bindE (specSpread n _ s ls (by omega) h3).ev (Gets.bindE tr (Gets.bindE ti (Gets.bindE io ?_)))))
  generalize spreadT n (l.map cvR) s ls = F at hw io ⊢
  obtain ⟨F1, F2⟩ := F
  simp only at hw io ⊢
  refine Gets.bind (eqIntS_true _ (by omega)) (fun e he => Gets.pos he ?_)
  refine Gets.step (fun k => laws_FnExactSpread.j0.eq_2 ..) (Gets.neg (by simp) (Gets.bindE tr ?_))
  refine Gets.bind (eqRoadS_true _ (by omega)) (fun e he => Gets.pos he (Gets.bindE ti ?_))
  refine Gets.bind (eqIntSS _ h3 hin) (fun e he => Gets.pos he (Gets.bind (markRoadS _ 1 (by omega) (by omega)) (fun r hr => ?_)))
  refine Gets.bind (markIntSS ls _ (by rw [hr]; omega) h3 hin h4) (fun q hq => ?_)
  refine Gets.neg (by rw [hq, hr]; omega) (Gets.bind (eqIntS_true _ (by omega)) (fun e he => Gets.pos he ?_))
  refine Gets.step (fun k => laws_FnExactSpread.j1.eq_2 ..) (Gets.neg (by simp) (Gets.bindE (markIntS _ 1 (by omega) (by omega)).ev ?_))
  refine Gets.bindE (heldIntS 1 _ (by omega) (by omega)).ev ?_
  refine Gets.neg (by omega) (Gets.pos rfl (Gets.bindE tr (Gets.bindE ti (Gets.bindE io ?_))))
  simp only
  refine Gets.bind (eqIntS_true _ (by omega)) (fun e he => Gets.pos he ?_)
  refine Gets.step (fun k => laws_FnExactSpread.j2.eq_2 ..) (Gets.neg (by simp) (Gets.bindE (heldIntS 1 _ (by omega) (by omega)).ev ?_))
  exact Gets.neg (by omega) (Gets.pos rfl (Gets.ret rfl))

end Go.Proofs.Ytokoihmjcfhemaa.Pure
