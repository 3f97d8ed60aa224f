-- Written by a program out of the translation, for this claim.
import Derived.Test.YtokoihmjcfhemaaPFnExactSpreadx0
import Derived.Test.YtokoihmjcfhemaaPFnExactSpreadx6
namespace Go.Proofs.Ytokoihmjcfhemaa.PFnExactSpread
open Go.RowKit Go.Proofs.YtokoihmjcfhemaaW.PrintWords Go.Proofs.YtokoihmjcfhemaaW.PrintLast Go.Proofs.YtokoihmjcfhemaaW.PrintMore
attribute [local go_sem] max2_int min2_int max_two min_two max_three min_three max_four min_four   -- for this text's walks alone
set_option linter.unusedVariables false
set_option linter.unusedSimpArgs false

/-! ### laws_markIntSS: function 28, by hand -/
def laws_markIntSS.go (k : Nat) : List (List Int) → Int → Option Int
  | [], a => some a
  | x :: l, a => (laws_markIntS.f k x a).bind fun p => laws_markIntSS.go k l p.1
def laws_markIntSS.f (k : Nat) (l0 : List (List Int)) (a1 : Int) : Option Int := if l0.length ≤ 2000000 then laws_markIntSS.go k l0 a1 else none
theorem laws_markIntSS.go_mono (k : Nat) (l : List (List Int)) : ∀ a, LeO (laws_markIntSS.go k l a) (laws_markIntSS.go (k + 1) l a) := by
  induction l with
  | nil => intro a; exact LeO.refl _
  | cons x l ih =>
    intro a
    unfold laws_markIntSS.go
    exact LeO.bind (laws_markIntS.mono _ _ _) (fun p => ih p.1)
theorem laws_markIntSS.mono : ∀ a0 a1 k, LeO (laws_markIntSS.f k a0 a1) (laws_markIntSS.f (k + 1) a0 a1) := by
  intro a0 a1 k
  unfold laws_markIntSS.f
  split
  · exact laws_markIntSS.go_mono k a0 a1
  · exact LeO.refl _
theorem laws_markIntSS.zip_at (l : List (List Int)) (j : Nat) (h : j < l.length) : l.zipIdx.getD j ([], 0) = (l[j], j) := by
  rw [List.getD_eq_getElem?_getD, List.getElem?_zipIdx, List.getElem?_eq_getElem h]; simp
set_option maxHeartbeats 4000000 in
set_option maxRecDepth 100000 in
theorem laws_markIntSS.marks (k : Nat) (P0 : Nat → Prop) (u : Value) (l0 : List (List Int)) (a1 : Int) (r1 : Int) (w0 w : World) (hB : Below w0.heap.size w0 w) (ho0 : Kd.S (Kd.slice 3 (Kd.int .i64)) 24 w w0.heap.size P0 u l0) (h : laws_markIntSS.f k l0 a1 = some r1) :
    Calls Try.prog 28 #[u, .int .i64 a1] w fun e w' => e = .returned (.int .i64 r1) ∧ Below w0.heap.size w0 w' ∧ Kept w w' P0 := by
  unfold laws_markIntSS.f at h
  by_cases hc : l0.length ≤ 2000000
  case neg => rw [if_neg hc] at h; cases h
  rw [if_pos hc] at h
  obtain ⟨fT, hR⟩ := ho0
  have hlz : l0.zipIdx.length = l0.length := List.length_zipIdx
  obtain ⟨A0, c0, e0⟩ := Kd.R_slice hR
  rw [hlz] at e0
  subst e0
  have HR := Aside0.mk hR
  have HLZ := Aside0.mk hlz
  have HN := Aside0.mk hc
  have HB := Aside0.mk hB
  have HW0 := Aside0.mk hB.size
  have H' := Aside0.mk h
  have HK := Aside0.mk (Kept.refl w (fun k_ => (P0 k_ ∧ some k_ ≠ (Value.slice A0 l0.length c0).ownBlock) ∧ fT k_ < 0))
  clear hR hlz hc hB h
  go_enter Try.func28, Try.ntmps28
  go_wp2
  go_loopg [1, 5] l0.length (fun kq v1 v5 w' => ∃ (j : Int) (a : Int), v1 = .int .i64 a ∧ v5 = .int .i64 j ∧ kq = l0.length - j.toNat ∧ Aside0 (0 ≤ j ∧ j ≤ (l0.length : Int)) ∧ Aside0 (laws_markIntSS.go k (l0.drop j.toNat) a = some r1) ∧ Aside0 (Kept w w' (fun k_ => (P0 k_ ∧ some k_ ≠ (Value.slice A0 l0.length c0).ownBlock) ∧ fT k_ < j.toNat)) ∧ Aside0 (Below w0.heap.size w0 w'))
  case atStart => exact ⟨0, a1, rfl, rfl, by simp, ⟨by omega⟩, ⟨by simpa using H'.out⟩, ⟨(by repeat (first | (with_reducible first | exact HK.out | apply Kept.alloc | apply Kept.drewN | apply Kept.drew) | exact HK.out))⟩, ⟨(by repeat (first | (with_reducible first | exact HB.out | apply below_alloc | apply pw_below_drewN | apply below_drew1) | exact HB.out))⟩⟩
  case round =>
    clear HK HB H'
    obtain ⟨j, a, rfl, rfl, rfl, hj, hg, HK, HB⟩ := hrel
    have hj0 := hj.out.1
    have hj1 := hj.out.2
    have hn := HN.out
    by_cases c : j < (l0.length : Int)
    · have dc0 : decide (j < (l0.length : Int)) = true := decide_eq_true c
      have hw1 : IntKind.i64.wrap (j + 1) = j + 1 := by rw [IntKind.wrap_i64]; omega
      have hjl : j.toNat < l0.length := by omega
      have hR := HR.out
      have hz := HLZ.out
      rw [show l0.length = l0.zipIdx.length by omega] at hR
      obtain ⟨g, cg, eg, _⟩ := Kd.R_form hR (by omega)
      injection eg with e1 e2 e3
      subst e1
      obtain ⟨cs, hcl, hM, hcell⟩ := Kd.R_getA hR ([], 0) j hj0 (by omega)
      rw [laws_markIntSS.zip_at l0 j.toNat hjl] at hM
      obtain ⟨vj, rfl, hRj⟩ := hM
      have hcell' : ∀ (j' : Nat) (u : Value), [vj][j']? = some u → w.cell? ((⟨g, 0, none⟩ : Addr).add (j.toNat * 1 + j')) = some u := hcell
      have hx : w.cell? ((⟨g, 0, none⟩ : Addr).add j.toNat) = some vj := by have := hcell' 0 _ rfl; rwa [Nat.mul_one, Nat.add_zero] at this
      obtain ⟨xs, hxs⟩ : ∃ xs, xs = l0[j.toNat] := ⟨_, rfl⟩
      have hdr : l0.drop j.toNat = xs :: l0.drop (j.toNat + 1) := by rw [List.drop_eq_getElem_cons hjl, hxs]
      have hg2 := hg.out
      rw [hdr] at hg2
      unfold laws_markIntSS.go at hg2
      obtain ⟨⟨p1, p2⟩, hp, hg3⟩ := Option.bind_eq_some_iff.1 hg2
      have HP := Aside0.mk hp
      have HG := Aside0.mk hg3
      have hne : ∀ k_, ((P0 k_ ∧ some k_ ≠ (Value.slice (some ⟨g, 0, none⟩) l0.zipIdx.length c0).ownBlock) ∧ fT k_ = j.toNat) → ¬ ((P0 k_ ∧ some k_ ≠ (Value.slice (some ⟨g, 0, none⟩) l0.length c0).ownBlock) ∧ fT k_ < j.toNat) := fun k_ h1 h2 => by have := h1.2; have := h2.2; omega
      have hRj2 := Kd.R_kept hRj HK.out hne
      simp only at hRj2
      rw [← hxs] at hRj2
      have HRJ := Aside0.mk hRj2
      have hx1 : wr.cell? ((⟨g, 0, none⟩ : Addr).add j.toNat) = some vj := cell_kept hx HK.out (fun h => h.1.2 (by unfold Addr.add; split <;> rfl))
      have hx2 : wr.cell? ⟨g, j.toNat, none⟩ = some vj := by rw [add_plain] at hx1; exact hx1
      clear hx1
      obtain ⟨Aj, cj, ej⟩ := Kd.R_slice hRj2
      subst ej
      have HJ := Aside0.mk (And.intro hj0 hjl)
      have p0 := eq_true hj0
      have q0 := eq_true c
      clear hR hz e2 e3 hcl hcell hcell' hRj hx hxs hdr hg hg2 hp hg3 hne hRj2 hj hj0 hj1 hn hjl c
      go_wp2_with (first | ((with_reducible refine gate_callee (f := 15) rfl ?_); refine goesL_ (some 17) rfl rfl Try.func15 (by kernel_rfl) rfl #[.slice Aj xs.length cj, .int .i64 a] rfl (by (try simp only [List.map_toArray, List.map_cons, List.map_nil]); first | done | rfl | (simp only [List.length_drop, List.length_take]; rfl)) ?_; (with_reducible refine (laws_markIntS.calls k _ (.slice Aj xs.length cj) xs a p1 p2 w0 _ HB.out HRJ.out HP.out).mono ?_); rintro e w9 ⟨rfl, hr9, hb9, hk9⟩; refine ⟨_, rfl, ?_⟩; have n0_ := Aside0.mk hb9; have n1_ := Aside0.mk (Kept.then_ (S := fun k_ => (P0 k_ ∧ some k_ ≠ (Value.slice (some ⟨g, 0, none⟩) l0.length c0).ownBlock) ∧ fT k_ < j.toNat + 1) (Kept.mono HK.out (fun k_ hk => ⟨hk.1, by have := hk.2; omega⟩)) hk9 (fun k_ hk => .inl ⟨hk.1, by have := hk.2; omega⟩)); clear HB HK hr9 hb9 hk9; have HB := n0_; have HK := n1_; clear n0_ n1_))
      go_roundg (l0.length - (j + 1).toNat)
      case measure => have := HJ.out; omega
      case rel => exact ⟨j + 1, p1, rfl, by first | rfl | rw [hw1], rfl, ⟨by have := HJ.out; omega⟩, ⟨by rw [show (j + 1).toNat = j.toNat + 1 by have := HJ.out; omega]; exact HG.out⟩, ⟨by rw [show (j + 1).toNat = j.toNat + 1 by have := HJ.out; omega]; exact (by repeat (first | (with_reducible first | exact HK.out | apply Kept.alloc | apply Kept.drewN | apply Kept.drew) | exact HK.out))⟩, ⟨(by repeat (first | (with_reducible first | exact HB.out | apply below_alloc | apply pw_below_drewN | apply below_drew1) | exact HB.out))⟩⟩
    · have dc0 : decide (j < (l0.length : Int)) = false := decide_eq_false c
      have hr : a = r1 := by
        have := hg.out
        rw [List.drop_eq_nil_of_le (by omega)] at this
        exact Option.some.inj this
      subst hr
      clear hj hj0 hj1 hn c hg
      go_wp2
      go_ret
      exact ⟨rfl, (by repeat (first | (with_reducible first | exact HB.out | apply below_alloc | apply pw_below_drewN | apply below_drew1) | exact HB.out)), Kept.mono (show Kept w _ (fun k_ => (P0 k_ ∧ some k_ ≠ (Value.slice A0 l0.length c0).ownBlock) ∧ fT k_ < j.toNat) from (by repeat (first | (with_reducible first | exact HK.out | apply Kept.alloc | apply Kept.drewN | apply Kept.drew) | exact HK.out))) (fun k_ hk => hk.1.1)⟩

end Go.Proofs.Ytokoihmjcfhemaa.PFnExactSpread
