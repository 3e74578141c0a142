/- The pure statement of FnExactTriHalf: for every input the law answers true; no condition. -/
import Derived.Test.YtclgbglilekceaaQFnExactTriHalfx4
namespace Go.Proofs.Ytclgbglilekceaa.Pure
open Go.RowKit Go.Proofs.Ytclgbglilekceaa.QFnExactTriHalf Go.Proofs.YtclgbglilekceaaW.PrintWords Go.Proofs.YtclgbglilekceaaW.PrintLast Go.Proofs.YtclgbglilekceaaW.PrintMore

theorem ev_pos {α : Type} {c : Prop} [Decidable c] {A B : Nat → Option α} {r : α} (h : c) (e : Ev A r) : Ev (fun k => if c then A k else B k) r := by
  simpa only [if_pos h] using e
theorem ev_neg {α : Type} {c : Prop} [Decidable c] {A B : Nat → Option α} {r : α} (h : ¬ c) (e : Ev B r) : Ev (fun k => if c then A k else B k) r := by
  simpa only [if_neg h] using e
theorem ev_eq {α : Type} {A : Nat → Option α} {r r' : α} (h : r = r') (e : Ev A r) : Ev A r' := h ▸ e
theorem ev_some {α : Type} {r r' : α} (h : r = r') : Ev (fun _ => some r) r' := h ▸ Ev.now r
theorem w64 {n : Int} (h0 : -9223372036854775808 ≤ n) (h1 : n ≤ 9223372036854775807) : wrap64 n = n := by unfold wrap64; omega
theorem rd_nat (l : List Int) (i : Nat) : rd l (i : Int) = l.getD i 0 := by simp [rd]
noncomputable def dec (P : Prop) : Bool := @decide P (Classical.propDecidable P)
theorem dec_true {P : Prop} (h : P) : dec P = true := @decide_eq_true P (Classical.propDecidable P) h
theorem dec_false {P : Prop} (h : ¬ P) : dec P = false := @decide_eq_false P (Classical.propDecidable P) h
theorem dec_iff {P : Prop} : dec P = true ↔ P := ⟨fun h => @of_decide_eq_true P (Classical.propDecidable P) h, dec_true⟩
theorem dec_congr {P Q : Prop} (h : P ↔ Q) : dec P = dec Q := by
  by_cases p : P
  · rw [dec_true p, dec_true (h.mp p)]
  · rw [dec_false p, dec_false (fun q => p (h.mpr q))]
theorem dec_dec {P : Prop} [Decidable P] : decide P = dec P := by
  by_cases p : P
  · rw [dec_true p, decide_eq_true p]
  · rw [dec_false p, decide_eq_false p]

def Bnd (l : List Int) : Prop := 1 ≤ l.length ∧ l.length ≤ 9 ∧ (∀ j : Nat, j < l.length → 1 ≤ l.getD j 0 ∧ l.getD j 0 ≤ 60) ∧ (∀ j : Nat, j + 1 < l.length → l.getD j 0 ≤ l.getD (j + 1) 0)

theorem l6In_eq (a b c : Int) : spec_l6In.f a b c = some (decide (b ≤ a ∧ a ≤ c)) := by
  unfold spec_l6In.f
  by_cases h : a ≥ b
  · rw [if_pos h]; congr 1; by_cases g : a ≤ c
    · rw [decide_eq_true g, decide_eq_true ⟨h, g⟩]
    · rw [decide_eq_false g, decide_eq_false (fun x => g x.2)]
  · rw [if_neg h, decide_eq_false (fun x => h x.1)]

theorem sb_l0 (l : List Int) (hl : l.length ≤ 9223372036854775000) : ∀ d i : Nat, i + d = l.length →
    Ev (fun k => spec_l1Bundle.l0 k l (i : Int)) (dec ((∀ j : Nat, i ≤ j → j < l.length → (1 ≤ l.getD j 0 ∧ l.getD j 0 ≤ 60) ∧ (0 < j → l.getD (j - 1) 0 ≤ l.getD j 0)) ∧ 1 ≤ l.length ∧ l.length ≤ 9)) := by
  intro d
  induction d with
  | zero =>
    intro i hi
    refine Ev.step (fun k => rfl) ?_
    simp only [spec_l1Bundle.l0, l6In_eq, Option.bind_some]
    refine ev_neg (by omega) (ev_some ?_)
    rw [dec_dec]
    exact dec_congr ⟨fun h => ⟨fun j h1 h2 => by omega, by omega, by omega⟩, fun h => by omega⟩
  | succ d ih =>
    intro i hi
    refine Ev.step (fun k => rfl) ?_
    simp only [spec_l1Bundle.l0, l6In_eq, Option.bind_some, rd_nat]
    have hw : wrap64 ((i : Int) + 1) = ((i + 1 : Nat) : Int) := by rw [w64 (by omega) (by omega)]; omega
    have hlt : (i : Int) < (l.length : Int) := by omega
    refine ev_pos hlt (ev_pos (by omega) ?_)
    by_cases hr : 1 ≤ l.getD i 0 ∧ l.getD i 0 ≤ 60
    · refine ev_pos (decide_eq_true hr) ?_
      by_cases h0 : (i : Int) > 0
      · have hw1 : wrap64 ((i : Int) - 1) = ((i - 1 : Nat) : Int) := by rw [w64 (by omega) (by omega)]; omega
        rw [hw1, rd_nat]
        refine ev_pos h0 (ev_pos (by omega) (ev_pos (by omega) ?_))
        by_cases hs : l.getD i 0 < l.getD (i - 1) 0
        · refine ev_pos hs (ev_some (dec_false ?_).symm)
          intro h
          have := (h.1 i (Nat.le_refl _) (by omega)).2 (by omega)
          omega
        · refine ev_neg hs ?_
          rw [hw]
          refine ev_eq (dec_congr ?_) (ih (i + 1) (by omega))
          constructor
          · rintro ⟨h, g⟩
            refine ⟨fun j h1 h2 => ?_, g⟩
            by_cases e : j = i
            · subst e; exact ⟨hr, fun _ => by omega⟩
            · exact h j (by omega) h2
          · rintro ⟨h, g⟩
            exact ⟨fun j h1 h2 => h j (by omega) h2, g⟩
      · refine ev_neg h0 ?_
        rw [hw]
        refine ev_eq (dec_congr ?_) (ih (i + 1) (by omega))
        constructor
        · rintro ⟨h, g⟩
          refine ⟨fun j h1 h2 => ?_, g⟩
          by_cases e : j = i
          · subst e; exact ⟨hr, fun _ => by omega⟩
          · exact h j (by omega) h2
        · rintro ⟨h, g⟩
          exact ⟨fun j h1 h2 => h j (by omega) h2, g⟩
    · refine ev_neg (by simpa using hr) (ev_some (dec_false ?_).symm)
      intro h
      exact hr (h.1 i (Nat.le_refl _) (by omega)).1

theorem sb_ev (l : List Int) (hl : l.length ≤ 9223372036854775000) : Ev (fun k => spec_l1Bundle.f k l) (dec (Bnd l)) := by
  simp only [spec_l1Bundle.f]
  refine ev_eq (dec_congr ?_) (sb_l0 l hl l.length 0 (by omega))
  unfold Bnd
  constructor
  · rintro ⟨h, g1, g2⟩
    exact ⟨g1, g2, fun j hj => (h j (Nat.zero_le _) hj).1, fun j hj => (h (j + 1) (Nat.zero_le _) hj).2 (by omega)⟩
  · rintro ⟨g1, g2, h, s⟩
    refine ⟨fun j _ hj => ⟨h j hj, fun h0 => ?_⟩, g1, g2⟩
    have := s (j - 1) (by omega)
    rwa [show j - 1 + 1 = j by omega] at this

theorem ir_l0 (l : List Int) (hl : l.length ≤ 9223372036854775000) : ∀ d i : Nat, i + d = l.length →
    Ev (fun k => impl_isRuler.l0 k l l (l.length : Int) (i : Int)) (dec ((∀ j : Nat, i ≤ j → j < l.length → 1 ≤ l.getD j 0 ∧ l.getD j 0 ≤ 60) ∧ 1 ≤ l.length ∧ l.length ≤ 9)) := by
  intro d
  induction d with
  | zero =>
    intro i hi
    refine Ev.step (fun k => rfl) ?_
    simp only [impl_isRuler.l0]
    refine ev_neg (by omega) ?_
    by_cases h1 : (l.length : Int) ≥ 1
    · refine ev_pos h1 (ev_some ?_)
      rw [dec_dec]
      exact dec_congr ⟨fun h => ⟨fun j h1 h2 => by omega, by omega, by omega⟩, fun h => by omega⟩
    · refine ev_neg h1 (ev_some (dec_false ?_).symm)
      intro h; omega
  | succ d ih =>
    intro i hi
    refine Ev.step (fun k => rfl) ?_
    simp only [impl_isRuler.l0, rd_nat]
    have hw : wrap64 ((i : Int) + 1) = ((i + 1 : Nat) : Int) := by rw [w64 (by omega) (by omega)]; omega
    refine ev_pos (by omega) (ev_pos (by omega) (ev_pos (by omega) ?_))
    by_cases ha : l.getD i 0 < 1
    · refine ev_pos ha (ev_some (dec_false ?_).symm)
      intro h
      have := h.1 i (Nat.le_refl _) (by omega)
      omega
    · refine ev_neg ha ?_
      by_cases hb : l.getD i 0 > 60
      · refine ev_pos hb (ev_some (dec_false ?_).symm)
        intro h
        have := h.1 i (Nat.le_refl _) (by omega)
        omega
      · refine ev_neg hb ?_
        rw [hw]
        refine ev_eq (dec_congr ?_) (ih (i + 1) (by omega))
        constructor
        · rintro ⟨h, g⟩
          refine ⟨fun j h1 h2 => ?_, g⟩
          by_cases e : j = i
          · subst e; omega
          · exact h j (by omega) h2
        · rintro ⟨h, g⟩
          exact ⟨fun j h1 h2 => h j (by omega) h2, g⟩

theorem ir_ev (l : List Int) (hl : l.length ≤ 9223372036854775000) : Ev (fun k => impl_isRuler.f k l) (dec ((∀ j : Nat, j < l.length → 1 ≤ l.getD j 0 ∧ l.getD j 0 ≤ 60) ∧ 1 ≤ l.length ∧ l.length ≤ 9)) := by
  simp only [impl_isRuler.f]
  refine ev_eq (dec_congr ?_) (ir_l0 l hl l.length 0 (by omega))
  exact ⟨fun h => ⟨fun j hj => h.1 j (Nat.zero_le _) hj, h.2⟩, fun h => ⟨fun j _ hj => h.1 j hj, h.2⟩⟩

theorem less_eq (a b : Int) : cmp_Less_int.f a b = some (decide (a < b)) := by
  simp [cmp_Less_int.f, cmp_isNaN_int.f]

theorem is_l0 (l : List Int) (hl : l.length ≤ 9223372036854775000) : ∀ i : Nat, i < l.length ∨ i = 0 →
    Ev (fun k => slices_IsSorted_int_int.l0 k l (i : Int)) (dec (∀ j : Nat, j < i → l.getD j 0 ≤ l.getD (j + 1) 0)) := by
  intro i
  induction i with
  | zero =>
    intro _
    refine Ev.step (fun k => rfl) ?_
    simp only [slices_IsSorted_int_int.l0]
    refine ev_neg (by omega) (ev_some (dec_true ?_).symm)
    intro j hj; omega
  | succ i ih =>
    intro hi
    have hi' : i + 1 < l.length := by omega
    have hw : wrap64 (((i + 1 : Nat) : Int) - 1) = (i : Int) := by rw [w64 (by omega) (by omega)]; omega
    refine Ev.step (fun k => rfl) ?_
    simp only [slices_IsSorted_int_int.l0, hw, rd_nat, less_eq, Option.bind_some]
    refine ev_pos (by omega) (ev_pos (by omega) (ev_pos (by omega) (ev_pos (by omega) (ev_pos (by omega) ?_))))
    by_cases hs : l.getD (i + 1) 0 < l.getD i 0
    · refine ev_pos (decide_eq_true hs) (ev_some (dec_false ?_).symm)
      intro h
      have := h i (by omega)
      omega
    · refine ev_neg (by simpa using hs) ?_
      refine ev_eq (dec_congr ?_) (ih (by omega))
      constructor
      · intro h j hj
        by_cases e : j = i
        · subst e; omega
        · exact h j (by omega)
      · intro h j hj
        exact h j (by omega)

theorem is_ev (l : List Int) (hl : l.length ≤ 9223372036854775000) : Ev (fun k => slices_IsSorted_int_int.f k l) (dec (∀ j : Nat, j + 1 < l.length → l.getD j 0 ≤ l.getD (j + 1) 0)) := by
  simp only [slices_IsSorted_int_int.f]
  by_cases h0 : l.length = 0
  · rw [show wrap64 ((l.length : Int) - 1) = -1 by rw [w64 (by omega) (by omega)]; omega]
    refine Ev.step (fun k => rfl) ?_
    simp only [slices_IsSorted_int_int.l0]
    refine ev_neg (by omega) (ev_some (dec_true ?_).symm)
    intro j hj; omega
  · rw [show wrap64 ((l.length : Int) - 1) = ((l.length - 1 : Nat) : Int) by rw [w64 (by omega) (by omega)]; omega]
    refine ev_eq (dec_congr ?_) (is_l0 l hl (l.length - 1) (by omega))
    exact ⟨fun h j hj => h j (by omega), fun h j hj => h j (by omega)⟩

theorem ii_ev (l : List Int) (hl : l.length ≤ 9223372036854775000) : Ev (fun k => impl_StickIn.f k l) (dec (Bnd l)) := by
  simp only [impl_StickIn.f]
  refine Ev.bind (ir_ev l hl) ?_
  by_cases h : (∀ j : Nat, j < l.length → 1 ≤ l.getD j 0 ∧ l.getD j 0 ≤ 60) ∧ 1 ≤ l.length ∧ l.length ≤ 9
  · refine ev_pos (dec_true h) (Ev.bind (is_ev l hl) (ev_some (dec_congr ?_)))
    exact ⟨fun s => ⟨h.2.1, h.2.2, h.1, s⟩, fun b => b.2.2.2⟩
  · refine ev_neg (by rw [dec_false h]; exact Bool.false_ne_true) (ev_some (dec_false ?_).symm)
    exact fun b => h ⟨b.2.2.1, b.1, b.2.1⟩

theorem ti_l0 (l : List Int) (hl : l.length ≤ 9223372036854775000) : ∀ d i : Nat, ∀ m : List Int, i + d = l.length → m.length = l.length → (∀ j : Nat, j < i → m.getD j 0 = l.getD j 0) →
    Ev (fun k => laws_toIntS.l0 k l m (i : Int)) l := by
  intro d
  induction d with
  | zero =>
    intro i m hi hm hj
    refine Ev.step (fun k => rfl) ?_
    simp only [laws_toIntS.l0]
    refine ev_neg (by omega) (ev_some ?_)
    apply List.ext_getElem hm
    intro j h1 h2
    have := hj j (by omega)
    simpa [List.getD_eq_getElem?_getD, h1, h2] using this
  | succ d ih =>
    intro i m hi hm hj
    refine Ev.step (fun k => rfl) ?_
    have hw : wrap64 ((i : Int) + 1) = ((i + 1 : Nat) : Int) := by rw [w64 (by omega) (by omega)]; omega
    simp only [laws_toIntS.l0, hw, rd_nat, Int.toNat_natCast]
    refine ev_pos (by omega) (ev_pos (by omega) (ev_pos (by omega) ?_))
    refine ih (i + 1) _ (by omega) (by simpa using hm) ?_
    intro j hlt
    by_cases e : j = i
    · subst e
      simp [List.getD_eq_getElem?_getD, show j < m.length by omega]
    · have := hj j (by omega)
      simpa [List.getD_eq_getElem?_getD, List.getElem?_set, show i ≠ j by omega] using this

theorem ti_ev (l : List Int) (hl : l.length ≤ 35184372088832) : Ev (fun k => laws_toIntS.f k l) l := by
  simp only [laws_toIntS.f]
  refine ev_pos (by omega) (ev_pos (by omega) ?_)
  exact ti_l0 l (by omega) l.length 0 _ (by omega) (by simp) (fun j hj => by omega)

theorem ei_l0 (l m : List Int) (hl : l.length ≤ 9223372036854775000) (hm : l.length = m.length) : ∀ d i : Nat, i + d = l.length → (∀ j : Nat, j < i → l.getD j 0 = m.getD j 0) →
    Ev (fun k => laws_eqIntS.l0 k l m (i : Int)) (decide (l = m)) := by
  intro d
  induction d with
  | zero =>
    intro i hi hj
    refine Ev.step (fun k => rfl) ?_
    simp only [laws_eqIntS.l0]
    refine ev_neg (by omega) (ev_some (decide_eq_true ?_).symm)
    apply List.ext_getElem hm
    intro j h1 h2
    have := hj j (by omega)
    simpa [List.getD_eq_getElem?_getD, h1, h2] using this
  | succ d ih =>
    intro i hi hj
    refine Ev.step (fun k => rfl) ?_
    have hw : wrap64 ((i : Int) + 1) = ((i + 1 : Nat) : Int) := by rw [w64 (by omega) (by omega)]; omega
    simp only [laws_eqIntS.l0, hw, rd_nat]
    refine ev_pos (by omega) (ev_pos (by omega) (ev_pos (by omega) ?_))
    by_cases e : l.getD i 0 = m.getD i 0
    · refine ev_pos e (ih (i + 1) (by omega) ?_)
      intro j h
      by_cases x : j = i
      · rw [x]; exact e
      · exact hj j (by omega)
    · refine ev_neg e (ev_some (decide_eq_false ?_).symm)
      intro x; exact e (by rw [x])

theorem ei_ev (l m : List Int) (hl : l.length ≤ 9223372036854775000) : Ev (fun k => laws_eqIntS.f k l m) (decide (l = m)) := by
  simp only [laws_eqIntS.f]
  by_cases h : (l.length : Int) = (m.length : Int)
  · exact ev_pos h (ei_l0 l m hl (by omega) l.length 0 (by omega) (fun j hj => by omega))
  · refine ev_neg h (ev_some (decide_eq_false ?_).symm)
    intro x; exact h (by rw [x])

theorem l1Three_eq (a b c : Int) (ha : 0 ≤ a ∧ a ≤ 1000000) (hb : 0 ≤ b ∧ b ≤ 1000000) (hc : 0 ≤ c ∧ c ≤ 1000000) : spec_l1Three.f a b c = some (decide (a < b + c ∧ b < a + c ∧ c < a + b)) := by
  unfold spec_l1Three.f
  rw [w64 (n := b + c) (by omega) (by omega), w64 (n := a + c) (by omega) (by omega), w64 (n := a + b) (by omega) (by omega)]
  by_cases h1 : a < b + c
  · by_cases h2 : b < a + c
    · rw [if_pos h1, if_pos h2]; simp [h1, h2]
    · rw [if_pos h1, if_neg h2]; simp [h2]
  · rw [if_neg h1]; simp [h1]

def Tri (l : List Int) : Prop := l.length = 3 ∧ Bnd l ∧ l.getD 2 0 < l.getD 0 0 + l.getD 1 0
theorem tri_in {l : List Int} (h : Bnd l) (h3 : l.length = 3) : (1 ≤ l.getD 0 0 ∧ l.getD 0 0 ≤ 60) ∧ (1 ≤ l.getD 1 0 ∧ l.getD 1 0 ≤ 60) ∧ (1 ≤ l.getD 2 0 ∧ l.getD 2 0 ≤ 60) ∧ l.getD 0 0 ≤ l.getD 1 0 ∧ l.getD 1 0 ≤ l.getD 2 0 :=
  ⟨h.2.2.1 0 (by omega), h.2.2.1 1 (by omega), h.2.2.1 2 (by omega), h.2.2.2 0 (by omega), h.2.2.2 1 (by omega)⟩
theorem rd_0 (l : List Int) : rd l 0 = l.getD 0 0 := rfl
theorem rd_1 (l : List Int) : rd l 1 = l.getD 1 0 := rfl
theorem rd_2 (l : List Int) : rd l 2 = l.getD 2 0 := rfl

theorem st_ev (l : List Int) (hl : l.length ≤ 9223372036854775000) : Ev (fun k => spec_l2Tri.f k l) (dec (Tri l)) := by
  simp only [spec_l2Tri.f]
  by_cases h3 : (l.length : Int) = 3
  · refine ev_pos h3 (Ev.bind (sb_ev l hl) ?_)
    by_cases hb : Bnd l
    · obtain ⟨i0, i1, i2, i3, i4⟩ := tri_in hb (by omega)
      rw [rd_0, rd_1, rd_2, l1Three_eq _ _ _ (by omega) (by omega) (by omega)]
      refine ev_pos (dec_true hb) (ev_pos (by omega) (ev_pos (by omega) (ev_pos (by omega) (ev_some ?_))))
      rw [dec_dec]
      refine dec_congr ⟨fun g => ⟨by omega, hb, by omega⟩, fun g => ?_⟩
      have := g.2.2
      omega
    · exact ev_neg (by rw [dec_false hb]; simp) (ev_some (dec_false (fun g => hb g.2.1)).symm)
  · exact ev_neg h3 (ev_some (dec_false (fun g => h3 (by have := g.1; omega))).symm)

theorem it_ev (l : List Int) (hl : l.length ≤ 9223372036854775000) : Ev (fun k => impl_isTriangle.f k l) (dec (Tri l)) := by
  simp only [impl_isTriangle.f]
  by_cases h3 : (l.length : Int) = 3
  · refine ev_pos h3 (Ev.bind (ii_ev l hl) ?_)
    by_cases hb : Bnd l
    · obtain ⟨i0, i1, i2, i3, i4⟩ := tri_in hb (by omega)
      rw [rd_0, rd_1, rd_2, w64 (by omega) (by omega)]
      refine ev_pos (dec_true hb) (ev_pos (by omega) (ev_pos (by omega) (ev_pos (by omega) (ev_some ?_))))
      rw [dec_dec]
      exact dec_congr ⟨fun g => ⟨by omega, hb, g⟩, fun g => g.2.2⟩
    · exact ev_neg (by rw [dec_false hb]; simp) (ev_some (dec_false (fun g => hb g.2.1)).symm)
  · exact ev_neg h3 (ev_some (dec_false (fun g => h3 (by have := g.1; omega))).symm)

def Sml (l : List Int) : Prop := l.length ≤ 1000 ∧ ∀ j : Nat, 0 ≤ l.getD j 0 ∧ l.getD j 0 ≤ 1000
theorem sml_of_bnd {l : List Int} (h : Bnd l) : Sml l := by
  refine ⟨by have := h.2.1; omega, fun j => ?_⟩
  by_cases hj : j < l.length
  · have := h.2.2.1 j hj; omega
  · rw [List.getD_eq_getElem?_getD, List.getElem?_eq_none (by omega)]; simp
theorem sml_take {l : List Int} (h : Sml l) (n : Nat) : Sml (l.take n) := by
  refine ⟨by simp; have := h.1; omega, fun j => ?_⟩
  have := h.2 j
  rw [List.getD_eq_getElem?_getD] at this ⊢
  rw [List.getElem?_take]
  split
  · exact this
  · simp
theorem drop_cons (l : List Int) (i : Nat) (h : i < l.length) : l.drop i = l.getD i 0 :: l.drop (i + 1) := by
  rw [List.drop_eq_getElem_cons h]; simp [List.getD_eq_getElem?_getD, h]

theorem ssum_l0 (l : List Int) (h : Sml l) : ∀ d i : Nat, ∀ n : Int, i + d = l.length → 0 ≤ n → n ≤ 1000 * i → Ev (fun k => spec_l1Sum.l0 k l n (i : Int)) (n + (l.drop i).sum) := by
  have h1 := h.1
  intro d
  induction d with
  | zero =>
    intro i n hi h0 hn
    refine Ev.step (fun k => rfl) ?_
    simp only [spec_l1Sum.l0]
    refine ev_neg (by omega) (ev_some ?_)
    rw [List.drop_of_length_le (by omega)]; simp
  | succ d ih =>
    intro i n hi h0 hn
    have hx := h.2 i
    refine Ev.step (fun k => rfl) ?_
    have hw : wrap64 ((i : Int) + 1) = ((i + 1 : Nat) : Int) := by rw [w64 (by omega) (by omega)]; omega
    simp only [spec_l1Sum.l0, hw, rd_nat, w64 (n := n + l.getD i 0) (by omega) (by omega)]
    refine ev_pos (by omega) (ev_pos (by omega) ?_)
    rw [drop_cons l i (by omega), List.sum_cons, ← Int.add_assoc]
    exact ih (i + 1) _ (by omega) (by omega) (by omega)
theorem ssum_ev (l : List Int) (h : Sml l) : Ev (fun k => spec_l1Sum.f k l) l.sum := by
  simp only [spec_l1Sum.f]
  have := ssum_l0 l h l.length 0 0 (by omega) (by omega) (by omega)
  simpa using this

theorem isum_l0 (l : List Int) (h : Sml l) : ∀ d i : Nat, ∀ n : Int, i + d = l.length → 0 ≤ n → n ≤ 1000 * i → Ev (fun k => impl_sum.l0 k n l (l.length : Int) (i : Int)) (n + (l.drop i).sum) := by
  have h1 := h.1
  intro d
  induction d with
  | zero =>
    intro i n hi h0 hn
    refine Ev.step (fun k => rfl) ?_
    simp only [impl_sum.l0]
    refine ev_neg (by omega) (ev_some ?_)
    rw [List.drop_of_length_le (by omega)]; simp
  | succ d ih =>
    intro i n hi h0 hn
    have hx := h.2 i
    refine Ev.step (fun k => rfl) ?_
    have hw : wrap64 ((i : Int) + 1) = ((i + 1 : Nat) : Int) := by rw [w64 (by omega) (by omega)]; omega
    simp only [impl_sum.l0, hw, rd_nat, w64 (n := n + l.getD i 0) (by omega) (by omega)]
    refine ev_pos (by omega) (ev_pos (by omega) (ev_pos (by omega) ?_))
    rw [drop_cons l i (by omega), List.sum_cons, ← Int.add_assoc]
    exact ih (i + 1) _ (by omega) (by omega) (by omega)
theorem isum_ev (l : List Int) (h : Sml l) : Ev (fun k => impl_sum.f k l) l.sum := by
  simp only [impl_sum.f]
  have := isum_l0 l h l.length 0 0 (by omega) (by omega) (by omega)
  simpa using this

def mkl (a : Int) (n : Nat) : List Int := (List.range n).map fun i : Nat => a + (i : Int)
theorem mkl_length (a : Int) (n : Nat) : (mkl a n).length = n := by simp [mkl]
theorem mkl_getD (a : Int) (n i : Nat) (h : i < n) : (mkl a n).getD i 0 = a + i := by
  simp [mkl, List.getD_eq_getElem?_getD, h]
theorem mark_l0 (n : Nat) (hn : n ≤ 10000000) : ∀ d i : Nat, ∀ m : List Int, i + d = n → m.length = n → (∀ j : Nat, j < i → m.getD j 0 = 1 + j) →
    Ev (fun k => laws_markIntS.l0 k m (1 + (i : Int)) (i : Int)) (1 + (n : Int), mkl 1 n) := by
  intro d
  induction d with
  | zero =>
    intro i m hi hm hj
    refine Ev.step (fun k => rfl) ?_
    simp only [laws_markIntS.l0]
    refine ev_neg (by omega) (ev_some ?_)
    rw [show i = n by omega]
    congr 1
    apply List.ext_getElem (by rw [hm, mkl_length])
    intro j h1 h2
    have a := hj j (by omega)
    have b := mkl_getD 1 n j (by omega)
    rw [List.getD_eq_getElem?_getD, List.getElem?_eq_getElem h1] at a
    rw [List.getD_eq_getElem?_getD, List.getElem?_eq_getElem h2] at b
    simp at a b
    rw [a, b]
  | succ d ih =>
    intro i m hi hm hj
    refine Ev.step (fun k => rfl) ?_
    have hw : wrap64 ((i : Int) + 1) = ((i + 1 : Nat) : Int) := by rw [w64 (by omega) (by omega)]; omega
    have hw2 : wrap64 (1 + (i : Int) + 1) = 1 + ((i + 1 : Nat) : Int) := by rw [w64 (by omega) (by omega)]; omega
    simp only [laws_markIntS.l0, hw, hw2, Int.toNat_natCast]
    refine ev_pos (by omega) (ev_pos (by omega) ?_)
    refine ih (i + 1) _ (by omega) (by simpa using hm) ?_
    intro j hlt
    by_cases e : j = i
    · subst e
      simp [List.getD_eq_getElem?_getD, show j < m.length by omega]
    · have := hj j (by omega)
      simpa [List.getD_eq_getElem?_getD, List.getElem?_set, show i ≠ j by omega] using this
theorem mark_ev (l : List Int) (hn : l.length ≤ 10000000) : Ev (fun k => laws_markIntS.f k l 1) (1 + (l.length : Int), mkl 1 l.length) := by
  simp only [laws_markIntS.f]
  exact mark_l0 l.length hn l.length 0 l (by omega) rfl (fun j hj => by omega)
theorem held_l0 (n : Nat) (hn : n ≤ 10000000) : ∀ d i : Nat, i + d = n → Ev (fun k => laws_heldIntS.l0 k (mkl 1 n) (1 + (i : Int)) (i : Int)) (1 + (n : Int)) := by
  intro d
  induction d with
  | zero =>
    intro i hi
    refine Ev.step (fun k => rfl) ?_
    simp only [laws_heldIntS.l0, mkl_length]
    refine ev_neg (by omega) (ev_some ?_)
    rw [show i = n by omega]
  | succ d ih =>
    intro i hi
    refine Ev.step (fun k => rfl) ?_
    have hw : wrap64 ((i : Int) + 1) = ((i + 1 : Nat) : Int) := by rw [w64 (by omega) (by omega)]; omega
    have hw2 : wrap64 (1 + (i : Int) + 1) = 1 + ((i + 1 : Nat) : Int) := by rw [w64 (by omega) (by omega)]; omega
    simp only [laws_heldIntS.l0, hw, hw2, mkl_length, rd_nat, mkl_getD 1 n i (by omega)]
    exact ev_pos (by omega) (ev_pos (by omega) (ev_pos (by simp) (ih (i + 1) (by omega))))
theorem held_ev (n : Nat) (hn : n ≤ 10000000) : Ev (fun k => laws_heldIntS.f k (mkl 1 n) 1) (1 + (n : Int)) := by
  simp only [laws_heldIntS.f]
  exact held_l0 n hn n 0 (by omega)

theorem sum3 {l : List Int} (h : l.length = 3) : l.sum = l.getD 0 0 + l.getD 1 0 + l.getD 2 0 := by
  match l, h with
  | [a, b, c], _ => simp; omega
noncomputable def hlf (l : List Int) : List Int × Bool := if dec (Tri l ∧ l.sum % 2 = 0) = true then ([l.sum / 2 - l.getD 2 0, l.sum / 2 - l.getD 1 0, l.sum / 2 - l.getD 0 0], true) else ([], false)
theorem hlf_pos {l : List Int} (h : Tri l) (c : l.sum % 2 = 0) : hlf l = ([l.sum / 2 - l.getD 2 0, l.sum / 2 - l.getD 1 0, l.sum / 2 - l.getD 0 0], true) := by unfold hlf; rw [if_pos (dec_true ⟨h, c⟩)]
theorem hlf_neg {l : List Int} (h : ¬ (Tri l ∧ l.sum % 2 = 0)) : hlf l = ([], false) := by unfold hlf; rw [if_neg (by rw [dec_false h]; simp)]
theorem shalf_ev (l : List Int) (hl : l.length ≤ 9223372036854775000) : Ev (fun k => spec_TriHalf.f k l) (hlf l) := by
  simp only [spec_TriHalf.f]
  refine Ev.bind (st_ev l hl) ?_
  by_cases h : Tri l
  · have h3 := h.1
    obtain ⟨i0, i1, i2, i3, i4⟩ := tri_in h.2.1 h3
    have s := sml_of_bnd h.2.1
    have e3 := sum3 h3
    rw [rd_0, rd_1, rd_2]
    refine ev_pos (dec_true h) (Ev.bind (ssum_ev l s) ?_)
    rw [Int.tmod_eq_emod_of_nonneg (by omega)]
    by_cases c : l.sum % 2 = 0
    · rw [hlf_pos h c]
      refine ev_neg (by omega) (Ev.bind (ssum_ev l s) (ev_pos (by omega) (ev_pos (by omega) (ev_pos (by omega) (ev_some ?_)))))
      rw [Int.tdiv_eq_ediv_of_nonneg (by omega), w64 (n := l.sum / 2) (by omega) (by omega), w64 (n := l.sum / 2 - l.getD 2 0) (by omega) (by omega), w64 (n := l.sum / 2 - l.getD 1 0) (by omega) (by omega), w64 (n := l.sum / 2 - l.getD 0 0) (by omega) (by omega)]
    · rw [hlf_neg (fun g => c g.2)]
      exact ev_pos (by omega) (Ev.now _)
  · rw [hlf_neg (fun g => h g.1)]
    exact ev_neg (by rw [dec_false h]; simp) (Ev.now _)
theorem ihalf_ev (l : List Int) (hl : l.length ≤ 9223372036854775000) : Ev (fun k => impl_TriHalf.f k l) (hlf l) := by
  simp only [impl_TriHalf.f]
  refine Ev.bind (it_ev l hl) ?_
  by_cases h : Tri l
  · have h3 := h.1
    obtain ⟨i0, i1, i2, i3, i4⟩ := tri_in h.2.1 h3
    have s := sml_of_bnd h.2.1
    have e3 := sum3 h3
    rw [rd_0, rd_1, rd_2]
    refine ev_pos (dec_true h) (Ev.bind (isum_ev l s) ?_)
    rw [Int.tmod_eq_emod_of_nonneg (by omega)]
    by_cases c : l.sum % 2 = 0
    · rw [hlf_pos h c]
      refine ev_pos (by omega) (Ev.bind (isum_ev l s) (ev_pos (by omega) (ev_pos (by omega) (ev_pos (by omega) (ev_some ?_)))))
      rw [Int.tdiv_eq_ediv_of_nonneg (by omega), w64 (n := l.sum / 2) (by omega) (by omega), w64 (n := l.sum / 2 - l.getD 2 0) (by omega) (by omega), w64 (n := l.sum / 2 - l.getD 1 0) (by omega) (by omega), w64 (n := l.sum / 2 - l.getD 0 0) (by omega) (by omega)]
    · rw [hlf_neg (fun g => c g.2)]
      exact ev_neg (by omega) (Ev.now _)
  · rw [hlf_neg (fun g => h g.1)]
    exact ev_neg (by rw [dec_false h]; simp) (Ev.now _)
theorem hlf_len (l : List Int) : (hlf l).1.length ≤ 1000000 := by unfold hlf; split <;> simp

theorem both (l : List Int) (hl : l.length ≤ 9223372036854775000) : ∃ r, Ev (fun k => spec_TriHalf.f k l) r ∧ Ev (fun k => impl_TriHalf.f k l) r ∧ r.1.length ≤ 1000000 := ⟨_, shalf_ev l hl, ihalf_ev l hl, hlf_len l⟩
theorem FnExactTriHalf : laws_FnExactTriHalf.Pure := by
  intro l h1 h2 hw
  apply Ev.rounds
  simp only [laws_FnExactTriHalf.f]
  by_cases c : (l.length : Int) > 1048576
  · exact ev_pos c (Ev.now _)
  · obtain ⟨r, es, ei, hr⟩ := both l (by omega)
    have tl := ti_ev l (by omega)
    have ee := ei_ev r.1 r.1 (by omega)
    refine ev_neg c (Ev.bind tl (Ev.bind es (Ev.bind tl (Ev.bind ei (Ev.bind ee (ev_pos (by simp) (Ev.step (fun k => rfl) ?_)))))))
    simp only [laws_FnExactTriHalf.j0]
    refine ev_neg (by simp) (Ev.bind tl (Ev.bind (ei_ev l l (by omega)) (ev_pos (by simp) (Ev.bind (mark_ev l (by omega)) (ev_neg (by dsimp only; omega) (Ev.bind ee (ev_pos (by simp) (Ev.step (fun k => rfl) ?_))))))))
    simp only [laws_FnExactTriHalf.j1]
    refine ev_neg (by simp) (Ev.bind (mark_ev r.1 (by omega)) (Ev.bind (held_ev _ (by omega)) (ev_neg (by omega) (ev_pos rfl (Ev.bind tl (Ev.bind ei (Ev.bind ee (ev_pos (by simp) (Ev.step (fun k => rfl) ?_)))))))))
    simp only [laws_FnExactTriHalf.j2]
    exact ev_neg (by simp) (Ev.bind (held_ev _ (by omega)) (ev_neg (by omega) (ev_pos rfl (Ev.now _))))

end Go.Proofs.Ytclgbglilekceaa.Pure
