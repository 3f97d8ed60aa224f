-- Written by a program out of the translation, for this claim.
import Derived.Test.YtlidnobkkgcnlaaPFnExactSendAgainx0
import Derived.Test.YtlidnobkkgcnlaaPFnExactSendAgainx10
namespace Go.Proofs.Ytlidnobkkgcnlaa.PFnExactSendAgain
open Go.RowKit Go.Proofs.YtlidnobkkgcnlaaW.PrintWords Go.Proofs.YtlidnobkkgcnlaaW.PrintLast Go.Proofs.YtlidnobkkgcnlaaW.PrintMore
attribute [local go_sem] max2_int min2_int max_two min_two max_three min_three max_four min_four   -- for this text's walks alone
set_option linter.unusedVariables false
set_option linter.unusedSimpArgs false

/-- A state of type 26 at block g of W; what its slices lead to came in by w0. -/
def IsS26 (w0 W : World) (g : Nat) (f0 : Int) (f1 : Int) (f2 : List ByteArray) (f3 : Int) (f4 : List ByteArray) : Prop := ∃ A2 c2, ∃ A4 c4, W.heap[g]? = some (.cells #[.int .i64 f0, .int .i64 f1, .slice A2 f2.length c2, .int .i64 f3, .slice A4 f4.length c4] 26 (0, 0)) ∧ w0.heap.size ≤ g ∧ Kd.C Kd.string w0 A2 f2.length f2 ∧ Kd.C Kd.string w0 A4 f4.length f4
theorem IsS26.grown {w0 W : World} {g : Nat} {f0 : Int} {f1 : Int} {f2 : List ByteArray} {f3 : Int} {f4 : List ByteArray} {W1 : World} {row : Option Nat} (h : IsS26 w0 W g f0 f1 f2 f3 f4) (hw : W.grownBy W1 row) (hne : some g ≠ row) : IsS26 w0 W1 g f0 f1 f2 f3 f4 := by
  obtain ⟨A2, c2, A4, c4, hb, hg, hr2, hr4⟩ := h
  exact ⟨A2, c2, A4, c4, blk_grown hb hw hne, hg, hr2, hr4⟩
theorem IsS26.own_neN {w0 W : World} {g : Nat} {f0 : Int} {f1 : Int} {f2 : List ByteArray} {f3 : Int} {f4 : List ByteArray} {α : Type} {d : Kd α} {e : Nat} {base : Nat} {ok : Nat → Prop} {v : Value} {xs : List α} (h : IsS26 w0 W g f0 f1 f2 f3 f4) (ho : Kd.N d e W base ok v xs) (ht : e ≠ 26) : some g ≠ v.ownBlock := by
  obtain ⟨A2, c2, A4, c4, hb, hg, hr2, hr4⟩ := h
  exact Kd.N_ne ho hb ht
theorem IsS26.fresh {w0 W : World} {g : Nat} {f0 : Int} {f1 : Int} {f2 : List ByteArray} {f3 : Int} {f4 : List ByteArray} (h : IsS26 w0 W g f0 f1 f2 f3 f4) : ∀ k, W.heap.size ≤ k → k ≠ g := by
  obtain ⟨A2, c2, A4, c4, hb, hg, hr2, hr4⟩ := h
  exact Kd.freshB hb
theorem IsS26.kept {w0 W : World} {g : Nat} {f0 : Int} {f1 : Int} {f2 : List ByteArray} {f3 : Int} {f4 : List ByteArray} {W1 : World} {S : Nat → Prop} (h : IsS26 w0 W g f0 f1 f2 f3 f4) (hk : Kept W W1 S) (hne : ¬ S g) : IsS26 w0 W1 g f0 f1 f2 f3 f4 := by
  obtain ⟨A2, c2, A4, c4, hb, hg, hr2, hr4⟩ := h
  exact ⟨A2, c2, A4, c4, blk_kept hb hk hne, hg, hr2, hr4⟩
theorem IsS26.below {w0 W : World} {g : Nat} {f0 : Int} {f1 : Int} {f2 : List ByteArray} {f3 : Int} {f4 : List ByteArray} {W1 : World} (h : IsS26 w0 W g f0 f1 f2 f3 f4) (hw : Below W.heap.size W W1) : IsS26 w0 W1 g f0 f1 f2 f3 f4 := h.grown (grown_of_below hw none) (by simp)
theorem IsS26.alloc {w0 W : World} {g : Nat} {f0 : Int} {f1 : Int} {f2 : List ByteArray} {f3 : Int} {f4 : List ByteArray} (h : IsS26 w0 W g f0 f1 f2 f3 f4) (o : Obj) : IsS26 w0 (W.alloc o) g f0 f1 f2 f3 f4 := h.below (below_alloc (Below.refl _ _) o)
theorem IsS26.drewN {w0 W : World} {g : Nat} {f0 : Int} {f1 : Int} {f2 : List ByteArray} {f3 : Int} {f4 : List ByteArray} (h : IsS26 w0 W g f0 f1 f2 f3 f4) (m : Nat) : IsS26 w0 (W.drewN m) g f0 f1 f2 f3 f4 := h
theorem IsS26.drew {w0 W : World} {g : Nat} {f0 : Int} {f1 : Int} {f2 : List ByteArray} {f3 : Int} {f4 : List ByteArray} (h : IsS26 w0 W g f0 f1 f2 f3 f4) : IsS26 w0 W.drew g f0 f1 f2 f3 f4 := h
theorem IsS26.at_ {w0 W : World} {g : Nat} {f0 : Int} {f1 : Int} {f2 : List ByteArray} {f3 : Int} {f4 : List ByteArray} {w' : World} {m : Nat} (hq : W.drewN m = w') (h : IsS26 w0 W g f0 f1 f2 f3 f4) : IsS26 w0 w' g f0 f1 f2 f3 f4 := by subst hq; exact IsS26.drewN h m
theorem IsS26.apart {w0 W : World} {g : Nat} {f0 : Int} {f1 : Int} {f2 : List ByteArray} {f3 : Int} {f4 : List ByteArray} {α : Type} {d : Kd α} {e : Nat} {base : Nat} {ok : Nat → Prop} {v : Value} {xs : List α} (h : IsS26 w0 W g f0 f1 f2 f3 f4) (ho : d.R e W base ok v xs) (ht : ∀ q, q ∈ e :: d.E → q ≠ 26) : d.R e W base (fun k => ok k ∧ k ≠ g) v xs := by
  obtain ⟨A2, c2, A4, c4, hb, hg, hr2, hr4⟩ := h
  exact Kd.R_types ho hb ht
theorem IsS26.own_ne {w0 W : World} {g : Nat} {f0 : Int} {f1 : Int} {f2 : List ByteArray} {f3 : Int} {f4 : List ByteArray} {α : Type} {d : Kd α} {e : Nat} {base : Nat} {ok : Nat → Prop} {v : Value} {xs : List α} (h : IsS26 w0 W g f0 f1 f2 f3 f4) (ho : d.R e W base ok v xs) (ht : e ≠ 26) : some g ≠ v.ownBlock := by
  obtain ⟨A2, c2, A4, c4, hb, hg, hr2, hr4⟩ := h
  exact Kd.R_ne ho hb ht
theorem IsS26.apartQ {w0 W : World} {g : Nat} {f0 : Int} {f1 : Int} {f2 : List ByteArray} {f3 : Int} {f4 : List ByteArray} {α : Type} {d : Kd α} {e : Nat} {base : Nat} {ok : Nat → Prop} {v : Value} {xs : List α} (h : IsS26 w0 W g f0 f1 f2 f3 f4) (ho : d.Q e W base ok v xs) (ht : ∀ q, q ∈ e :: d.E → q ≠ 26) : d.Q e W base (fun k => ok k ∧ k ≠ g) v xs := by
  obtain ⟨A2, c2, A4, c4, hb, hg, hr2, hr4⟩ := h
  exact Kd.Q_types ho hb ht
theorem IsS26.own_neQ {w0 W : World} {g : Nat} {f0 : Int} {f1 : Int} {f2 : List ByteArray} {f3 : Int} {f4 : List ByteArray} {α : Type} {d : Kd α} {e : Nat} {base : Nat} {ok : Nat → Prop} {v : Value} {xs : List α} (h : IsS26 w0 W g f0 f1 f2 f3 f4) (ho : d.Q e W base ok v xs) (ht : e ≠ 26) : some g ≠ v.ownBlock := by
  obtain ⟨A2, c2, A4, c4, hb, hg, hr2, hr4⟩ := h
  exact Kd.Q_ne ho hb ht
theorem IsS26.apartS {w0 W : World} {g : Nat} {f0 : Int} {f1 : Int} {f2 : List ByteArray} {f3 : Int} {f4 : List ByteArray} {α : Type} {d : Kd α} {e : Nat} {base : Nat} {ok : Nat → Prop} {v : Value} {xs : List α} (h : IsS26 w0 W g f0 f1 f2 f3 f4) (ho : d.S e W base ok v xs) (ht : ∀ q, q ∈ e :: d.E → q ≠ 26) : d.S e W base (fun k => ok k ∧ k ≠ g) v xs := by
  obtain ⟨A2, c2, A4, c4, hb, hg, hr2, hr4⟩ := h
  exact Kd.S_types ho hb ht
theorem IsS26.own_neS {w0 W : World} {g : Nat} {f0 : Int} {f1 : Int} {f2 : List ByteArray} {f3 : Int} {f4 : List ByteArray} {α : Type} {d : Kd α} {e : Nat} {base : Nat} {ok : Nat → Prop} {v : Value} {xs : List α} (h : IsS26 w0 W g f0 f1 f2 f3 f4) (ho : d.S e W base ok v xs) (ht : e ≠ 26) : some g ≠ v.ownBlock := by
  obtain ⟨A2, c2, A4, c4, hb, hg, hr2, hr4⟩ := h
  exact Kd.S_ne ho hb ht
theorem IsS26.lt {w0 W : World} {g : Nat} {f0 : Int} {f1 : Int} {f2 : List ByteArray} {f3 : Int} {f4 : List ByteArray} (h : IsS26 w0 W g f0 f1 f2 f3 f4) : g < W.heap.size := by
  obtain ⟨A2, c2, A4, c4, hb, hg, hr2, hr4⟩ := h
  exact blk_lt hb
theorem IsS26.ge {w0 W : World} {g : Nat} {f0 : Int} {f1 : Int} {f2 : List ByteArray} {f3 : Int} {f4 : List ByteArray} (h : IsS26 w0 W g f0 f1 f2 f3 f4) : w0.heap.size ≤ g := by
  obtain ⟨A2, c2, A4, c4, hb, hg, hr2, hr4⟩ := h
  exact hg
theorem IsS26.ne_blk {w0 W : World} {g : Nat} {f0 : Int} {f1 : Int} {f2 : List ByteArray} {f3 : Int} {f4 : List ByteArray} {a : Nat} {cs : Array Value} {t : TypeId} {fr : Nat × Nat} (h : IsS26 w0 W g f0 f1 f2 f3 f4) (hb2 : W.heap[a]? = some (.cells cs t fr)) (ht : t ≠ 26) : g ≠ a := by
  obtain ⟨A2, c2, A4, c4, hb, hg, hr2, hr4⟩ := h
  rintro rfl
  rw [hb] at hb2
  injection hb2 with hb2
  injection hb2 with _ ht2
  exact ht ht2.symm
theorem IsS26.far {w0 W : World} {g : Nat} {f0 : Int} {f1 : Int} {f2 : List ByteArray} {f3 : Int} {f4 : List ByteArray} {p : Addr} (h : IsS26 w0 W g f0 f1 f2 f3 f4) (hne : g ≠ p.block) (u : Value) : IsS26 w0 (W.setCell p u) g f0 f1 f2 f3 f4 := by
  obtain ⟨A2, c2, A4, c4, hb, hg, hr2, hr4⟩ := h
  exact ⟨A2, c2, A4, c4, blk_far hb hne u, hg, hr2, hr4⟩
theorem cellS26_0 {W : World} {g : Nat} {A2 : Option Addr} {c2 : Nat} {A4 : Option Addr} {c4 : Nat} {f0 : Int} {f1 : Int} {f2 : List ByteArray} {f3 : Int} {f4 : List ByteArray} (h : W.heap[g]? = some (.cells #[.int .i64 f0, .int .i64 f1, .slice A2 f2.length c2, .int .i64 f3, .slice A4 f4.length c4] 26 (0, 0))) : W.cell? ⟨g, 0, none⟩ = some (.int .i64 f0) := (blk_cell h 0).trans rfl
theorem IsS26.set_0 {w0 W : World} {g : Nat} {f0 : Int} {f1 : Int} {f2 : List ByteArray} {f3 : Int} {f4 : List ByteArray} (h : IsS26 w0 W g f0 f1 f2 f3 f4) (x : Int) : IsS26 w0 (W.setCell ⟨g, 0, none⟩ (.int .i64 x)) g x f1 f2 f3 f4 := by
  obtain ⟨A2, c2, A4, c4, hb, hg, hr2, hr4⟩ := h
  exact ⟨A2, c2, A4, c4, by simpa using blk_set hb 0 (.int .i64 x), hg, hr2, hr4⟩
theorem cellS26_1 {W : World} {g : Nat} {A2 : Option Addr} {c2 : Nat} {A4 : Option Addr} {c4 : Nat} {f0 : Int} {f1 : Int} {f2 : List ByteArray} {f3 : Int} {f4 : List ByteArray} (h : W.heap[g]? = some (.cells #[.int .i64 f0, .int .i64 f1, .slice A2 f2.length c2, .int .i64 f3, .slice A4 f4.length c4] 26 (0, 0))) : W.cell? ⟨g, 1, none⟩ = some (.int .i64 f1) := (blk_cell h 1).trans rfl
theorem IsS26.set_1 {w0 W : World} {g : Nat} {f0 : Int} {f1 : Int} {f2 : List ByteArray} {f3 : Int} {f4 : List ByteArray} (h : IsS26 w0 W g f0 f1 f2 f3 f4) (x : Int) : IsS26 w0 (W.setCell ⟨g, 1, none⟩ (.int .i64 x)) g f0 x f2 f3 f4 := by
  obtain ⟨A2, c2, A4, c4, hb, hg, hr2, hr4⟩ := h
  exact ⟨A2, c2, A4, c4, by simpa using blk_set hb 1 (.int .i64 x), hg, hr2, hr4⟩
theorem cellS26_2 {W : World} {g : Nat} {A2 : Option Addr} {c2 : Nat} {A4 : Option Addr} {c4 : Nat} {f0 : Int} {f1 : Int} {f2 : List ByteArray} {f3 : Int} {f4 : List ByteArray} (h : W.heap[g]? = some (.cells #[.int .i64 f0, .int .i64 f1, .slice A2 f2.length c2, .int .i64 f3, .slice A4 f4.length c4] 26 (0, 0))) : W.cell? ⟨g, 2, none⟩ = some (.slice A2 f2.length c2) := (blk_cell h 2).trans rfl
theorem cellS26_3 {W : World} {g : Nat} {A2 : Option Addr} {c2 : Nat} {A4 : Option Addr} {c4 : Nat} {f0 : Int} {f1 : Int} {f2 : List ByteArray} {f3 : Int} {f4 : List ByteArray} (h : W.heap[g]? = some (.cells #[.int .i64 f0, .int .i64 f1, .slice A2 f2.length c2, .int .i64 f3, .slice A4 f4.length c4] 26 (0, 0))) : W.cell? ⟨g, 3, none⟩ = some (.int .i64 f3) := (blk_cell h 3).trans rfl
theorem IsS26.set_3 {w0 W : World} {g : Nat} {f0 : Int} {f1 : Int} {f2 : List ByteArray} {f3 : Int} {f4 : List ByteArray} (h : IsS26 w0 W g f0 f1 f2 f3 f4) (x : Int) : IsS26 w0 (W.setCell ⟨g, 3, none⟩ (.int .i64 x)) g f0 f1 f2 x f4 := by
  obtain ⟨A2, c2, A4, c4, hb, hg, hr2, hr4⟩ := h
  exact ⟨A2, c2, A4, c4, by simpa using blk_set hb 3 (.int .i64 x), hg, hr2, hr4⟩
theorem cellS26_4 {W : World} {g : Nat} {A2 : Option Addr} {c2 : Nat} {A4 : Option Addr} {c4 : Nat} {f0 : Int} {f1 : Int} {f2 : List ByteArray} {f3 : Int} {f4 : List ByteArray} (h : W.heap[g]? = some (.cells #[.int .i64 f0, .int .i64 f1, .slice A2 f2.length c2, .int .i64 f3, .slice A4 f4.length c4] 26 (0, 0))) : W.cell? ⟨g, 4, none⟩ = some (.slice A4 f4.length c4) := (blk_cell h 4).trans rfl
theorem IsS26.new (w0 W : World) (A2 : Option Addr) (c2 : Nat) (A4 : Option Addr) (c4 : Nat) (f0 : Int) (f1 : Int) (f2 : List ByteArray) (f3 : Int) (f4 : List ByteArray) (hB : Below w0.heap.size w0 W) (hr2 : Kd.C Kd.string w0 A2 f2.length f2) (hr4 : Kd.C Kd.string w0 A4 f4.length f4) : IsS26 w0 (W.alloc (.cells #[.int .i64 f0, .int .i64 f1, .slice A2 f2.length c2, .int .i64 f3, .slice A4 f4.length c4] 26)) W.heap.size f0 f1 f2 f3 f4 := ⟨A2, c2, A4, c4, by simpa using heap_alloc_new W _, hB.size, hr2, hr4⟩

/-! ### impl_End_parcels: function 56, by hand -/
def impl_End_parcels.el (s1 : Int) (s2 : List ByteArray) (s3 : Int) (a1 : Int) (i : Nat) : S36 := ⟨a1 + i, s3, rdOf ByteArray.empty s2 (a1 + i - s1 - 1)⟩
def impl_End_parcels.f (s0 : Int) (s1 : Int) (s2 : List ByteArray) (s3 : Int) (s4 : List ByteArray) (a1 : Int) (a2 : Int) : Option (List S36 × Int × Int × Int) :=
  if 0 ≤ s1 ∧ s1 + 1 ≤ a1 ∧ a2 ≤ s1 + s2.length ∧ s1 ≤ 1000000000 ∧ s2.length ≤ 1000000000 then some ((List.range (a2 + 1 - a1).toNat).map (impl_End_parcels.el s1 s2 s3 a1), s0, s1, s3) else none
set_option maxHeartbeats 8000000 in
set_option maxRecDepth 100000 in
theorem impl_End_parcels.calls (g : Nat) (s0 : Int) (s1 : Int) (s2 : List ByteArray) (s3 : Int) (s4 : List ByteArray) (a1 : Int) (a2 : Int) (r1 : List S36) (r2 : Int) (r3 : Int) (r4 : Int) (w0 w : World) (hI : IsS26 w0 w g s0 s1 s2 s3 s4) (hB : Below w0.heap.size w0 w) (h : impl_End_parcels.f s0 s1 s2 s3 s4 a1 a2 = some (r1, r2, r3, r4)) :
    Calls Try.prog 56 #[.pointer (some ⟨g, 0, none⟩), .int .i64 a1, .int .i64 a2] w fun e w' => ∃ v0_ : Value, e = .returned (v0_) ∧ Kd.R k36 36 w' w.heap.size (fun _ => True) v0_ r1 ∧ IsS26 w0 w' g r2 r3 s2 r4 s4 ∧ Below w0.heap.size w0 w' ∧ KeepBut w w' g none := by
  unfold impl_End_parcels.f at h
  by_cases hc : 0 ≤ s1 ∧ s1 + 1 ≤ a1 ∧ a2 ≤ s1 + s2.length ∧ s1 ≤ 1000000000 ∧ s2.length ≤ 1000000000
  case neg => rw [if_neg hc] at h; cases h
  rw [if_pos hc] at h
  injection h with h
  simp only [Prod.mk.injEq] at h
  obtain ⟨rfl, rfl, rfl, rfl⟩ := h
  obtain ⟨h1, h2, h3, h4, h5⟩ := hc
  obtain ⟨A2, c2, A4, c4, hb, hg, hr2, hr4⟩ := hI
  have HBK := Aside0.mk hb
  have HR2 := Aside0.mk hr2
  have HR4 := Aside0.mk hr4
  have HB0 := Aside0.mk hB
  have HB := Aside0.mk (Below.refl w.heap.size w)
  have hgw := Aside0.mk (blk_lt hb)
  have HG := Aside0.mk hg
  clear hb hr2 hr4 hB hg
  go_enter Try.func56, Try.ntmps56
  go_wp2
  go_loopg [7, 8] (a2 + 1 - a1).toNat (fun kq v7 v8 w' => ∃ j : Nat, v8 = .int .i64 (a1 + j) ∧ kq = (a2 + 1 - a1).toNat - j ∧ Aside0 (j ≤ (a2 + 1 - a1).toNat) ∧ Aside0 (Kd.R k36 36 w' w.heap.size (fun _ => True) v7 ((List.range j).map (impl_End_parcels.el s1 s2 s3 a1))) ∧ Aside0 (Below w.heap.size w w'))
  case atStart => exact ⟨0, by simp, rfl, ⟨Nat.zero_le _⟩, ⟨Kd.R_nil _ _ _ _ _⟩, HB⟩
  case round =>
    obtain ⟨j, rfl, rfl, hj, HO, HB1⟩ := hrel
    by_cases c : a1 + j ≤ a2
    · have c0 : decide (a1 + (j : Int) ≤ a2) = true := decide_eq_true c
      have hi0 : 0 ≤ a1 + (j : Int) - s1 - 1 := by omega
      have hi1 : a1 + (j : Int) - s1 - 1 < (s2.length : Int) := by omega
      obtain ⟨ad, e, hx⟩ := Kd.at_string HR2.out _ hi0 hi1
      cases e
      have HB2 : Below w0.heap.size w0 wr := HB0.out.trans (HB1.out.mono HB0.out.size)
      have hx2 := (HB2.cell (World.block_lt_of_cell? w0 _ hx)).trans hx
      rw [show (a1 + (j : Int) - s1 - 1).toNat = (a1 + (j : Int) - s1).toNat - 1 by omega] at hx2
      have hi2 : 1 ≤ a1 + (j : Int) - s1 := by omega
      have hbw := blk_below HBK.out HB1.out
      have x1 : wr.cell? ⟨g, 1, none⟩ = some (.int .i64 s1) := (blk_cell hbw 1).trans rfl
      have x2 : wr.cell? ⟨g, 2, none⟩ = some (.slice (some ad) s2.length c2) := (blk_cell hbw 2).trans rfl
      have x3 : wr.cell? ⟨g, 3, none⟩ = some (.int .i64 s3) := (blk_cell hbw 3).trans rfl
      replace HB2 := Aside0.mk HB2
      clear hx
      have hw1 : IntKind.i64.wrap (a1 + (j : Int) - s1) = a1 + (j : Int) - s1 := by rw [IntKind.wrap_i64]; omega
      have hw2 : IntKind.i64.wrap (a1 + (j : Int) - s1 - 1) = a1 + (j : Int) - s1 - 1 := by rw [IntKind.wrap_i64]; omega
      have hlj := hj.out
      go_wp2
      go_region_law (refine Kd.R_append_step (W := wr.drew) k36 w.heap.size (by simp [Region.wanted]) (.tmp 15) (.tmp 35) 45 36 _ 32 rfl Try.underlying45 info36 rfl (by decide) (by omega) _ _ (impl_End_parcels.el s1 s2 s3 a1 j) [.int .i64 (a1 + (j : Int)), .int .i64 s3, .string (rdOf ByteArray.empty s2 (a1 + (j : Int) - s1 - 1))] (fun _ => True) (fun _ => False) (by simp [Act.eval, Act.put]) (by simp [Act.eval, Act.put]) (k36_mkM _ _ _ _) (fun _ hk => hk.elim) (fun _ _ => trivial) (Kd.R_drew HO.out) (below_drew HB1.out) HB1.out.size (by simp; omega) ?_; intro v1 w1 ho1 hb1 hg1 hat1; replace ho1 := Aside0.mk ho1; replace hb1 := Aside0.mk hb1; clear hg1 hat1)
      go_wp2
      all_goals
        go_roundg ((a2 + 1 - a1).toNat - (j + 1))
        case measure => omega
        case rel => exact ⟨j + 1, by simp; omega, rfl, ⟨by omega⟩, ⟨by rw [List.range_succ, List.map_append]; exact ho1.out⟩, hb1⟩
    · have c0 : decide (a1 + (j : Int) ≤ a2) = false := decide_eq_false c
      have hlj := hj.out
      have hje : j = (a2 + 1 - a1).toNat := by omega
      replace hje := Aside0.mk hje
      go_wp2
      go_ret
      refine ⟨_, rfl, by rw [← hje.out]; exact HO.out, ⟨A2, c2, A4, c4, blk_below HBK.out HB1.out, HG.out, HR2.out, HR4.out⟩, HB0.out.trans (HB1.out.mono HB0.out.size), HB1.out.size, fun i hi _ _ => HB1.out.block i hi⟩

/-! ### impl_SendAgain: function 27, by hand -/
def impl_SendAgain.f (k : Nat) (a0_0 : Int) (a0_1 : Int) (l0_2 : List ByteArray) (a0_3 : Int) (l0_4 : List ByteArray) : Option (List S36) :=
  (impl_EndOk.f k a0_0 a0_1 l0_2 a0_3 l0_4).bind fun t => if t = true then (if a0_0 = a0_1 then some [(⟨0, a0_3, (⟨#[]⟩ : ByteArray)⟩ : S36)] else ((impl_End_parcels.f a0_0 a0_1 l0_2 a0_3 l0_4 (a0_1 + 1) a0_0).bind fun p => some p.1)) else some []
theorem impl_SendAgain.mono : ∀ a0 a1 a2 a3 a4 k, LeO (impl_SendAgain.f k a0 a1 a2 a3 a4) (impl_SendAgain.f (k + 1) a0 a1 a2 a3 a4) := by
  intro a0 a1 a2 a3 a4 k
  unfold impl_SendAgain.f
  exact LeO.bind (impl_EndOk.mono _ _ _ _ _ _) (fun _ => LeO.refl _)
set_option maxHeartbeats 8000000 in
set_option maxRecDepth 100000 in
theorem impl_SendAgain.calls (k : Nat) (a0_0 : Int) (a0_1 : Int) (A0_2 : Option Addr) (c0_2 : Nat) (l0_2 : List ByteArray) (a0_3 : Int) (A0_4 : Option Addr) (c0_4 : Nat) (l0_4 : List ByteArray) (r : List S36) (w : World) (hr0_2 : Kd.C Kd.string w A0_2 l0_2.length l0_2) (hc0_2 : l0_2.length ≤ c0_2) (hr0_4 : Kd.C Kd.string w A0_4 l0_4.length l0_4) (hc0_4 : l0_4.length ≤ c0_4) (h : impl_SendAgain.f k a0_0 a0_1 l0_2 a0_3 l0_4 = some r) :
    Calls Try.prog 27 #[.agg #[.int .i64 a0_0, .int .i64 a0_1, .slice A0_2 l0_2.length c0_2, .int .i64 a0_3, .slice A0_4 l0_4.length c0_4]] w fun e w' => ∃ v0_ : Value, e = .returned (v0_) ∧ Kd.R k36 36 w' w.heap.size (fun _ => True) v0_ r ∧ Below w.heap.size w w' := by
  have hu26 := Try.underlying26
  unfold impl_SendAgain.f at h
  obtain ⟨t, ht, h⟩ := Option.bind_eq_some_iff.1 h
  have HR2 := Aside0.mk hr0_2
  have HR4 := Aside0.mk hr0_4
  clear hr0_2 hr0_4
  have HT := Aside0.mk ht
  clear ht
  cases t with
  | false =>
    rw [if_neg (by simp)] at h
    obtain rfl := Option.some.inj h
    go_enter Try.func27, Try.ntmps27
    go_wp2_with (first | ((with_reducible refine gate_dst (N := 1) rfl ?_); refine box_event ?hg (N := 1) ?hd (cs := #[.int .i64 a0_0, .int .i64 a0_1, .slice A0_2 l0_2.length c0_2, .int .i64 a0_3, .slice A0_4 l0_4.length c0_4]) (t := 26) ?hr ?_; (case hd => rfl); (case hg => rfl); (case hr => first | (go_simp; done) | (go_simp; rfl)); intro gb hg w4 hbox hb; have x0 : w4.cell? ⟨gb, 0, none⟩ = some (.int .i64 a0_0) := (blk_cell hbox 0).trans rfl; have x1 : w4.cell? ⟨gb, 1, none⟩ = some (.int .i64 a0_1) := (blk_cell hbox 1).trans rfl; have x2 : w4.cell? ⟨gb, 2, none⟩ = some (.slice A0_2 l0_2.length c0_2) := (blk_cell hbox 2).trans rfl; have x3 : w4.cell? ⟨gb, 3, none⟩ = some (.int .i64 a0_3) := (blk_cell hbox 3).trans rfl; have x4 : w4.cell? ⟨gb, 4, none⟩ = some (.slice A0_4 l0_4.length c0_4) := (blk_cell hbox 4).trans rfl; have HBX := Aside0.mk hbox; have HB := Aside0.mk hb; have HG := Aside0.mk (show w.heap.size ≤ gb by rw [hg]; exact Nat.le_refl _); clear hbox hb hg) | (go_at_call 23; refine (impl_EndOk.calls k a0_0 a0_1 _ _ l0_2 a0_3 _ _ l0_4 _ w4 (Kd.C_below HR2.out HB.out) hc0_2 (Kd.C_below HR4.out HB.out) hc0_4 HT.out).mono ?_; rintro e w5 ⟨rfl, hb5⟩; have hbx5 := blk_below HBX.out hb5; have HW := Aside0.mk (HB.out.trans (hb5.mono HB.out.size)); have y0 : w5.cell? ⟨gb, 0, none⟩ = some (.int .i64 a0_0) := (blk_cell hbx5 0).trans rfl; have y1 : w5.cell? ⟨gb, 1, none⟩ = some (.int .i64 a0_1) := (blk_cell hbx5 1).trans rfl; have y2 : w5.cell? ⟨gb, 2, none⟩ = some (.slice A0_2 l0_2.length c0_2) := (blk_cell hbx5 2).trans rfl; have y3 : w5.cell? ⟨gb, 3, none⟩ = some (.int .i64 a0_3) := (blk_cell hbx5 3).trans rfl; have y4 : w5.cell? ⟨gb, 4, none⟩ = some (.slice A0_4 l0_4.length c0_4) := (blk_cell hbx5 4).trans rfl; have HBX5 := Aside0.mk hbx5; have HB5 := Aside0.mk hb5; clear hbx5 hb5))
    go_ret
    exact ⟨_, rfl, Kd.R_nil _ _ _ _ _, HW.out⟩
  | true =>
    rw [if_pos rfl] at h
    by_cases c : a0_0 = a0_1
    · rw [if_pos c] at h
      obtain rfl := Option.some.inj h
      have c0 : (a0_0 == a0_1) = true := beq_iff_eq.mpr c
      clear c
      go_enter Try.func27, Try.ntmps27
      go_wp2_with (first | ((with_reducible refine gate_dst (N := 1) rfl ?_); refine box_event ?hg (N := 1) ?hd (cs := #[.int .i64 a0_0, .int .i64 a0_1, .slice A0_2 l0_2.length c0_2, .int .i64 a0_3, .slice A0_4 l0_4.length c0_4]) (t := 26) ?hr ?_; (case hd => rfl); (case hg => rfl); (case hr => first | (go_simp; done) | (go_simp; rfl)); intro gb hg w4 hbox hb; have x0 : w4.cell? ⟨gb, 0, none⟩ = some (.int .i64 a0_0) := (blk_cell hbox 0).trans rfl; have x1 : w4.cell? ⟨gb, 1, none⟩ = some (.int .i64 a0_1) := (blk_cell hbox 1).trans rfl; have x2 : w4.cell? ⟨gb, 2, none⟩ = some (.slice A0_2 l0_2.length c0_2) := (blk_cell hbox 2).trans rfl; have x3 : w4.cell? ⟨gb, 3, none⟩ = some (.int .i64 a0_3) := (blk_cell hbox 3).trans rfl; have x4 : w4.cell? ⟨gb, 4, none⟩ = some (.slice A0_4 l0_4.length c0_4) := (blk_cell hbox 4).trans rfl; have HBX := Aside0.mk hbox; have HB := Aside0.mk hb; have HG := Aside0.mk (show w.heap.size ≤ gb by rw [hg]; exact Nat.le_refl _); clear hbox hb hg) | (go_at_call 23; refine (impl_EndOk.calls k a0_0 a0_1 _ _ l0_2 a0_3 _ _ l0_4 _ w4 (Kd.C_below HR2.out HB.out) hc0_2 (Kd.C_below HR4.out HB.out) hc0_4 HT.out).mono ?_; rintro e w5 ⟨rfl, hb5⟩; have hbx5 := blk_below HBX.out hb5; have HW := Aside0.mk (HB.out.trans (hb5.mono HB.out.size)); have y0 : w5.cell? ⟨gb, 0, none⟩ = some (.int .i64 a0_0) := (blk_cell hbx5 0).trans rfl; have y1 : w5.cell? ⟨gb, 1, none⟩ = some (.int .i64 a0_1) := (blk_cell hbx5 1).trans rfl; have y2 : w5.cell? ⟨gb, 2, none⟩ = some (.slice A0_2 l0_2.length c0_2) := (blk_cell hbx5 2).trans rfl; have y3 : w5.cell? ⟨gb, 3, none⟩ = some (.int .i64 a0_3) := (blk_cell hbx5 3).trans rfl; have y4 : w5.cell? ⟨gb, 4, none⟩ = some (.slice A0_4 l0_4.length c0_4) := (blk_cell hbx5 4).trans rfl; have HBX5 := Aside0.mk hbx5; have HB5 := Aside0.mk hb5; clear hbx5 hb5) | ((with_reducible refine gate_dst (N := 14) rfl ?_); refine Kd.R_lit k36 _ 36 ?hg (N := 14) ?hd (xs := [(⟨0, a0_3, (⟨#[]⟩ : ByteArray)⟩ : S36)]) (inner := [.int .i64 0, .int .i64 a0_3, .string ⟨#[]⟩]) (ok := fun _ => True) (okp := fun _ => True) ?hr ?hp (fun _ hk => hk) trivial (Below.refl _ _) (Nat.le_refl _) (by simp) ?_; (case hd => rfl); (case hg => rfl); (case hr => first | (go_simp; done) | (go_simp; rfl)); (case hp => exact (Reps.snoc (Reps.none _ _) (k36_mkM _ _ _ _) rfl)); intro v6 w6 ho6 hb6 hg_ hnew_; have HO6 := Aside0.mk ho6; have HB6 := Aside0.mk hb6; clear hg_ hnew_ ho6 hb6))
      go_ret
      exact ⟨_, rfl, Kd.R_lower HO6.out HW.out.size, HW.out.trans (HB6.out.mono HW.out.size)⟩
    · rw [if_neg c] at h
      obtain ⟨p, hp, hr⟩ := Option.bind_eq_some_iff.1 h
      obtain rfl := Option.some.inj hr
      have c0 : (a0_0 == a0_1) = false := beq_eq_false_iff_ne.mpr c
      have hbd : 0 ≤ a0_1 ∧ a0_1 ≤ 1000000000 := by
        unfold impl_End_parcels.f at hp
        split at hp
        · rename_i hc; exact ⟨hc.1, hc.2.2.2.1⟩
        · cases hp
      obtain ⟨hbd1, hbd2⟩ := hbd
      have HP := Aside0.mk hp
      clear c h hp hr
      go_enter Try.func27, Try.ntmps27
      go_wp2_with (first | ((with_reducible refine gate_dst (N := 1) rfl ?_); refine box_event ?hg (N := 1) ?hd (cs := #[.int .i64 a0_0, .int .i64 a0_1, .slice A0_2 l0_2.length c0_2, .int .i64 a0_3, .slice A0_4 l0_4.length c0_4]) (t := 26) ?hr ?_; (case hd => rfl); (case hg => rfl); (case hr => first | (go_simp; done) | (go_simp; rfl)); intro gb hg w4 hbox hb; have x0 : w4.cell? ⟨gb, 0, none⟩ = some (.int .i64 a0_0) := (blk_cell hbox 0).trans rfl; have x1 : w4.cell? ⟨gb, 1, none⟩ = some (.int .i64 a0_1) := (blk_cell hbox 1).trans rfl; have x2 : w4.cell? ⟨gb, 2, none⟩ = some (.slice A0_2 l0_2.length c0_2) := (blk_cell hbox 2).trans rfl; have x3 : w4.cell? ⟨gb, 3, none⟩ = some (.int .i64 a0_3) := (blk_cell hbox 3).trans rfl; have x4 : w4.cell? ⟨gb, 4, none⟩ = some (.slice A0_4 l0_4.length c0_4) := (blk_cell hbox 4).trans rfl; have HBX := Aside0.mk hbox; have HB := Aside0.mk hb; have HG := Aside0.mk (show w.heap.size ≤ gb by rw [hg]; exact Nat.le_refl _); clear hbox hb hg) | (go_at_call 23; refine (impl_EndOk.calls k a0_0 a0_1 _ _ l0_2 a0_3 _ _ l0_4 _ w4 (Kd.C_below HR2.out HB.out) hc0_2 (Kd.C_below HR4.out HB.out) hc0_4 HT.out).mono ?_; rintro e w5 ⟨rfl, hb5⟩; have hbx5 := blk_below HBX.out hb5; have HW := Aside0.mk (HB.out.trans (hb5.mono HB.out.size)); have y0 : w5.cell? ⟨gb, 0, none⟩ = some (.int .i64 a0_0) := (blk_cell hbx5 0).trans rfl; have y1 : w5.cell? ⟨gb, 1, none⟩ = some (.int .i64 a0_1) := (blk_cell hbx5 1).trans rfl; have y2 : w5.cell? ⟨gb, 2, none⟩ = some (.slice A0_2 l0_2.length c0_2) := (blk_cell hbx5 2).trans rfl; have y3 : w5.cell? ⟨gb, 3, none⟩ = some (.int .i64 a0_3) := (blk_cell hbx5 3).trans rfl; have y4 : w5.cell? ⟨gb, 4, none⟩ = some (.slice A0_4 l0_4.length c0_4) := (blk_cell hbx5 4).trans rfl; have HBX5 := Aside0.mk hbx5; have HB5 := Aside0.mk hb5; clear hbx5 hb5) | (go_at_call 56; refine (impl_End_parcels.calls gb a0_0 a0_1 l0_2 a0_3 l0_4 (a0_1 + 1) a0_0 p.1 p.2.1 p.2.2.1 p.2.2.2 w w5 ⟨_, _, _, _, HBX5.out, HG.out, HR2.out, HR4.out⟩ HW.out HP.out).mono ?_; rintro e w6 ⟨v6, rfl, ho6, _, hb6, _⟩; have HO6 := Aside0.mk ho6; have HB6 := Aside0.mk hb6; clear ho6 hb6))
      go_ret
      exact ⟨_, rfl, Kd.R_lower HO6.out HW.out.size, HB6.out⟩

end Go.Proofs.Ytlidnobkkgcnlaa.PFnExactSendAgain
