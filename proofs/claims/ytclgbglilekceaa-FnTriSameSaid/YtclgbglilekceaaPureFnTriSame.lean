/- The pure statement of FnTriSame: for every input the law answers true; no condition. -/
import Derived.Test.YtclgbglilekceaaQFnTriSamex8
namespace Go.Proofs.Ytclgbglilekceaa.Pure
open Go.RowKit Go.Proofs.Ytclgbglilekceaa.QFnTriSame Go.Proofs.YtclgbglilekceaaW.PrintWords Go.Proofs.YtclgbglilekceaaW.PrintLast Go.Proofs.YtclgbglilekceaaW.PrintMore

theorem ev_pos {α : Type} {c : Prop} [Decidable c] {A B : Nat → Option α} {r : α} (h : c) (e : Ev A r) : Ev (fun k => if c then A k else B k) r := by
  simpa only [if_pos h] using e
theorem ev_neg {α : Type} {c : Prop} [Decidable c] {A B : Nat → Option α} {r : α} (h : ¬ c) (e : Ev B r) : Ev (fun k => if c then A k else B k) r := by
  simpa only [if_neg h] using e
theorem ev_eq {α : Type} {A : Nat → Option α} {r r' : α} (h : r = r') (e : Ev A r) : Ev A r' := h ▸ e
theorem ev_some {α : Type} {r r' : α} (h : r = r') : Ev (fun _ => some r) r' := h ▸ Ev.now r
theorem w64 {n : Int} (h0 : -9223372036854775808 ≤ n) (h1 : n ≤ 9223372036854775807) : wrap64 n = n := by unfold wrap64; omega
theorem rd_nat (l : List Int) (i : Nat) : rd l (i : Int) = l.getD i 0 := by simp [rd]
noncomputable def dec (P : Prop) : Bool := @decide P (Classical.propDecidable P)
theorem dec_true {P : Prop} (h : P) : dec P = true := @decide_eq_true P (Classical.propDecidable P) h
theorem dec_false {P : Prop} (h : ¬ P) : dec P = false := @decide_eq_false P (Classical.propDecidable P) h
theorem dec_iff {P : Prop} : dec P = true ↔ P := ⟨fun h => @of_decide_eq_true P (Classical.propDecidable P) h, dec_true⟩
theorem dec_congr {P Q : Prop} (h : P ↔ Q) : dec P = dec Q := by
  by_cases p : P
  · rw [dec_true p, dec_true (h.mp p)]
  · rw [dec_false p, dec_false (fun q => p (h.mpr q))]
theorem dec_dec {P : Prop} [Decidable P] : decide P = dec P := by
  by_cases p : P
  · rw [dec_true p, decide_eq_true p]
  · rw [dec_false p, decide_eq_false p]

def Bnd (l : List Int) : Prop := 1 ≤ l.length ∧ l.length ≤ 9 ∧ (∀ j : Nat, j < l.length → 1 ≤ l.getD j 0 ∧ l.getD j 0 ≤ 60) ∧ (∀ j : Nat, j + 1 < l.length → l.getD j 0 ≤ l.getD (j + 1) 0)

theorem l6In_eq (a b c : Int) : spec_l6In.f a b c = some (decide (b ≤ a ∧ a ≤ c)) := by
  unfold spec_l6In.f
  by_cases h : a ≥ b
  · rw [if_pos h]; congr 1; by_cases g : a ≤ c
    · rw [decide_eq_true g, decide_eq_true ⟨h, g⟩]
    · rw [decide_eq_false g, decide_eq_false (fun x => g x.2)]
  · rw [if_neg h, decide_eq_false (fun x => h x.1)]

theorem sb_l0 (l : List Int) (hl : l.length ≤ 9223372036854775000) : ∀ d i : Nat, i + d = l.length →
    Ev (fun k => spec_l1Bundle.l0 k l (i : Int)) (dec ((∀ j : Nat, i ≤ j → j < l.length → (1 ≤ l.getD j 0 ∧ l.getD j 0 ≤ 60) ∧ (0 < j → l.getD (j - 1) 0 ≤ l.getD j 0)) ∧ 1 ≤ l.length ∧ l.length ≤ 9)) := by
  intro d
  induction d with
  | zero =>
    intro i hi
    refine Ev.step (fun k => rfl) ?_
    simp only [spec_l1Bundle.l0, l6In_eq, Option.bind_some]
    refine ev_neg (by omega) (ev_some ?_)
    rw [dec_dec]
    exact dec_congr ⟨fun h => ⟨fun j h1 h2 => by omega, by omega, by omega⟩, fun h => by omega⟩
  | succ d ih =>
    intro i hi
    refine Ev.step (fun k => rfl) ?_
    simp only [spec_l1Bundle.l0, l6In_eq, Option.bind_some, rd_nat]
    have hw : wrap64 ((i : Int) + 1) = ((i + 1 : Nat) : Int) := by rw [w64 (by omega) (by omega)]; omega
    have hlt : (i : Int) < (l.length : Int) := by omega
    refine ev_pos hlt (ev_pos (by omega) ?_)
    by_cases hr : 1 ≤ l.getD i 0 ∧ l.getD i 0 ≤ 60
    · refine ev_pos (decide_eq_true hr) ?_
      by_cases h0 : (i : Int) > 0
      · have hw1 : wrap64 ((i : Int) - 1) = ((i - 1 : Nat) : Int) := by rw [w64 (by omega) (by omega)]; omega
        rw [hw1, rd_nat]
        refine ev_pos h0 (ev_pos (by omega) (ev_pos (by omega) ?_))
        by_cases hs : l.getD i 0 < l.getD (i - 1) 0
        · refine ev_pos hs (ev_some (dec_false ?_).symm)
          intro h
          have := (h.1 i (Nat.le_refl _) (by omega)).2 (by omega)
          omega
        · refine ev_neg hs ?_
          rw [hw]
          refine ev_eq (dec_congr ?_) (ih (i + 1) (by omega))
          constructor
          · rintro ⟨h, g⟩
            refine ⟨fun j h1 h2 => ?_, g⟩
            by_cases e : j = i
            · subst e; exact ⟨hr, fun _ => by omega⟩
            · exact h j (by omega) h2
          · rintro ⟨h, g⟩
            exact ⟨fun j h1 h2 => h j (by omega) h2, g⟩
      · refine ev_neg h0 ?_
        rw [hw]
        refine ev_eq (dec_congr ?_) (ih (i + 1) (by omega))
        constructor
        · rintro ⟨h, g⟩
          refine ⟨fun j h1 h2 => ?_, g⟩
          by_cases e : j = i
          · subst e; exact ⟨hr, fun _ => by omega⟩
          · exact h j (by omega) h2
        · rintro ⟨h, g⟩
          exact ⟨fun j h1 h2 => h j (by omega) h2, g⟩
    · refine ev_neg (by simpa using hr) (ev_some (dec_false ?_).symm)
      intro h
      exact hr (h.1 i (Nat.le_refl _) (by omega)).1

theorem sb_ev (l : List Int) (hl : l.length ≤ 9223372036854775000) : Ev (fun k => spec_l1Bundle.f k l) (dec (Bnd l)) := by
  simp only [spec_l1Bundle.f]
  refine ev_eq (dec_congr ?_) (sb_l0 l hl l.length 0 (by omega))
  unfold Bnd
  constructor
  · rintro ⟨h, g1, g2⟩
    exact ⟨g1, g2, fun j hj => (h j (Nat.zero_le _) hj).1, fun j hj => (h (j + 1) (Nat.zero_le _) hj).2 (by omega)⟩
  · rintro ⟨g1, g2, h, s⟩
    refine ⟨fun j _ hj => ⟨h j hj, fun h0 => ?_⟩, g1, g2⟩
    have := s (j - 1) (by omega)
    rwa [show j - 1 + 1 = j by omega] at this

theorem ir_l0 (l : List Int) (hl : l.length ≤ 9223372036854775000) : ∀ d i : Nat, i + d = l.length →
    Ev (fun k => impl_isRuler.l0 k l l (l.length : Int) (i : Int)) (dec ((∀ j : Nat, i ≤ j → j < l.length → 1 ≤ l.getD j 0 ∧ l.getD j 0 ≤ 60) ∧ 1 ≤ l.length ∧ l.length ≤ 9)) := by
  intro d
  induction d with
  | zero =>
    intro i hi
    refine Ev.step (fun k => rfl) ?_
    simp only [impl_isRuler.l0]
    refine ev_neg (by omega) ?_
    by_cases h1 : (l.length : Int) ≥ 1
    · refine ev_pos h1 (ev_some ?_)
      rw [dec_dec]
      exact dec_congr ⟨fun h => ⟨fun j h1 h2 => by omega, by omega, by omega⟩, fun h => by omega⟩
    · refine ev_neg h1 (ev_some (dec_false ?_).symm)
      intro h; omega
  | succ d ih =>
    intro i hi
    refine Ev.step (fun k => rfl) ?_
    simp only [impl_isRuler.l0, rd_nat]
    have hw : wrap64 ((i : Int) + 1) = ((i + 1 : Nat) : Int) := by rw [w64 (by omega) (by omega)]; omega
    refine ev_pos (by omega) (ev_pos (by omega) (ev_pos (by omega) ?_))
    by_cases ha : l.getD i 0 < 1
    · refine ev_pos ha (ev_some (dec_false ?_).symm)
      intro h
      have := h.1 i (Nat.le_refl _) (by omega)
      omega
    · refine ev_neg ha ?_
      by_cases hb : l.getD i 0 > 60
      · refine ev_pos hb (ev_some (dec_false ?_).symm)
        intro h
        have := h.1 i (Nat.le_refl _) (by omega)
        omega
      · refine ev_neg hb ?_
        rw [hw]
        refine ev_eq (dec_congr ?_) (ih (i + 1) (by omega))
        constructor
        · rintro ⟨h, g⟩
          refine ⟨fun j h1 h2 => ?_, g⟩
          by_cases e : j = i
          · subst e; omega
          · exact h j (by omega) h2
        · rintro ⟨h, g⟩
          exact ⟨fun j h1 h2 => h j (by omega) h2, g⟩

theorem ir_ev (l : List Int) (hl : l.length ≤ 9223372036854775000) : Ev (fun k => impl_isRuler.f k l) (dec ((∀ j : Nat, j < l.length → 1 ≤ l.getD j 0 ∧ l.getD j 0 ≤ 60) ∧ 1 ≤ l.length ∧ l.length ≤ 9)) := by
  simp only [impl_isRuler.f]
  refine ev_eq (dec_congr ?_) (ir_l0 l hl l.length 0 (by omega))
  exact ⟨fun h => ⟨fun j hj => h.1 j (Nat.zero_le _) hj, h.2⟩, fun h => ⟨fun j _ hj => h.1 j hj, h.2⟩⟩

theorem less_eq (a b : Int) : cmp_Less_int.f a b = some (decide (a < b)) := by
  simp [cmp_Less_int.f, cmp_isNaN_int.f]

theorem is_l0 (l : List Int) (hl : l.length ≤ 9223372036854775000) : ∀ i : Nat, i < l.length ∨ i = 0 →
    Ev (fun k => slices_IsSorted_int_int.l0 k l (i : Int)) (dec (∀ j : Nat, j < i → l.getD j 0 ≤ l.getD (j + 1) 0)) := by
  intro i
  induction i with
  | zero =>
    intro _
    refine Ev.step (fun k => rfl) ?_
    simp only [slices_IsSorted_int_int.l0]
    refine ev_neg (by omega) (ev_some (dec_true ?_).symm)
    intro j hj; omega
  | succ i ih =>
    intro hi
    have hi' : i + 1 < l.length := by omega
    have hw : wrap64 (((i + 1 : Nat) : Int) - 1) = (i : Int) := by rw [w64 (by omega) (by omega)]; omega
    refine Ev.step (fun k => rfl) ?_
    simp only [slices_IsSorted_int_int.l0, hw, rd_nat, less_eq, Option.bind_some]
    refine ev_pos (by omega) (ev_pos (by omega) (ev_pos (by omega) (ev_pos (by omega) (ev_pos (by omega) ?_))))
    by_cases hs : l.getD (i + 1) 0 < l.getD i 0
    · refine ev_pos (decide_eq_true hs) (ev_some (dec_false ?_).symm)
      intro h
      have := h i (by omega)
      omega
    · refine ev_neg (by simpa using hs) ?_
      refine ev_eq (dec_congr ?_) (ih (by omega))
      constructor
      · intro h j hj
        by_cases e : j = i
        · subst e; omega
        · exact h j (by omega)
      · intro h j hj
        exact h j (by omega)

theorem is_ev (l : List Int) (hl : l.length ≤ 9223372036854775000) : Ev (fun k => slices_IsSorted_int_int.f k l) (dec (∀ j : Nat, j + 1 < l.length → l.getD j 0 ≤ l.getD (j + 1) 0)) := by
  simp only [slices_IsSorted_int_int.f]
  by_cases h0 : l.length = 0
  · rw [show wrap64 ((l.length : Int) - 1) = -1 by rw [w64 (by omega) (by omega)]; omega]
    refine Ev.step (fun k => rfl) ?_
    simp only [slices_IsSorted_int_int.l0]
    refine ev_neg (by omega) (ev_some (dec_true ?_).symm)
    intro j hj; omega
  · rw [show wrap64 ((l.length : Int) - 1) = ((l.length - 1 : Nat) : Int) by rw [w64 (by omega) (by omega)]; omega]
    refine ev_eq (dec_congr ?_) (is_l0 l hl (l.length - 1) (by omega))
    exact ⟨fun h j hj => h j (by omega), fun h j hj => h j (by omega)⟩

theorem ii_ev (l : List Int) (hl : l.length ≤ 9223372036854775000) : Ev (fun k => impl_StickIn.f k l) (dec (Bnd l)) := by
  simp only [impl_StickIn.f]
  refine Ev.bind (ir_ev l hl) ?_
  by_cases h : (∀ j : Nat, j < l.length → 1 ≤ l.getD j 0 ∧ l.getD j 0 ≤ 60) ∧ 1 ≤ l.length ∧ l.length ≤ 9
  · refine ev_pos (dec_true h) (Ev.bind (is_ev l hl) (ev_some (dec_congr ?_)))
    exact ⟨fun s => ⟨h.2.1, h.2.2, h.1, s⟩, fun b => b.2.2.2⟩
  · refine ev_neg (by rw [dec_false h]; exact Bool.false_ne_true) (ev_some (dec_false ?_).symm)
    exact fun b => h ⟨b.2.2.1, b.1, b.2.1⟩

theorem l1Three_eq (a b c : Int) (ha : 0 ≤ a ∧ a ≤ 1000000) (hb : 0 ≤ b ∧ b ≤ 1000000) (hc : 0 ≤ c ∧ c ≤ 1000000) : spec_l1Three.f a b c = some (decide (a < b + c ∧ b < a + c ∧ c < a + b)) := by
  unfold spec_l1Three.f
  rw [w64 (n := b + c) (by omega) (by omega), w64 (n := a + c) (by omega) (by omega), w64 (n := a + b) (by omega) (by omega)]
  by_cases h1 : a < b + c
  · by_cases h2 : b < a + c
    · rw [if_pos h1, if_pos h2]; simp [h1, h2]
    · rw [if_pos h1, if_neg h2]; simp [h2]
  · rw [if_neg h1]; simp [h1]

def Tri (l : List Int) : Prop := l.length = 3 ∧ Bnd l ∧ l.getD 2 0 < l.getD 0 0 + l.getD 1 0
theorem tri_in {l : List Int} (h : Bnd l) (h3 : l.length = 3) : (1 ≤ l.getD 0 0 ∧ l.getD 0 0 ≤ 60) ∧ (1 ≤ l.getD 1 0 ∧ l.getD 1 0 ≤ 60) ∧ (1 ≤ l.getD 2 0 ∧ l.getD 2 0 ≤ 60) ∧ l.getD 0 0 ≤ l.getD 1 0 ∧ l.getD 1 0 ≤ l.getD 2 0 :=
  ⟨h.2.2.1 0 (by omega), h.2.2.1 1 (by omega), h.2.2.1 2 (by omega), h.2.2.2 0 (by omega), h.2.2.2 1 (by omega)⟩
theorem rd_0 (l : List Int) : rd l 0 = l.getD 0 0 := rfl
theorem rd_1 (l : List Int) : rd l 1 = l.getD 1 0 := rfl
theorem rd_2 (l : List Int) : rd l 2 = l.getD 2 0 := rfl

theorem st_ev (l : List Int) (hl : l.length ≤ 9223372036854775000) : Ev (fun k => spec_l2Tri.f k l) (dec (Tri l)) := by
  simp only [spec_l2Tri.f]
  by_cases h3 : (l.length : Int) = 3
  · refine ev_pos h3 (Ev.bind (sb_ev l hl) ?_)
    by_cases hb : Bnd l
    · obtain ⟨i0, i1, i2, i3, i4⟩ := tri_in hb (by omega)
      rw [rd_0, rd_1, rd_2, l1Three_eq _ _ _ (by omega) (by omega) (by omega)]
      refine ev_pos (dec_true hb) (ev_pos (by omega) (ev_pos (by omega) (ev_pos (by omega) (ev_some ?_))))
      rw [dec_dec]
      refine dec_congr ⟨fun g => ⟨by omega, hb, by omega⟩, fun g => ?_⟩
      have := g.2.2
      omega
    · exact ev_neg (by rw [dec_false hb]; simp) (ev_some (dec_false (fun g => hb g.2.1)).symm)
  · exact ev_neg h3 (ev_some (dec_false (fun g => h3 (by have := g.1; omega))).symm)

theorem it_ev (l : List Int) (hl : l.length ≤ 9223372036854775000) : Ev (fun k => impl_isTriangle.f k l) (dec (Tri l)) := by
  simp only [impl_isTriangle.f]
  by_cases h3 : (l.length : Int) = 3
  · refine ev_pos h3 (Ev.bind (ii_ev l hl) ?_)
    by_cases hb : Bnd l
    · obtain ⟨i0, i1, i2, i3, i4⟩ := tri_in hb (by omega)
      rw [rd_0, rd_1, rd_2, w64 (by omega) (by omega)]
      refine ev_pos (dec_true hb) (ev_pos (by omega) (ev_pos (by omega) (ev_pos (by omega) (ev_some ?_))))
      rw [dec_dec]
      exact dec_congr ⟨fun g => ⟨by omega, hb, g⟩, fun g => g.2.2⟩
    · exact ev_neg (by rw [dec_false hb]; simp) (ev_some (dec_false (fun g => hb g.2.1)).symm)
  · exact ev_neg h3 (ev_some (dec_false (fun g => h3 (by have := g.1; omega))).symm)

theorem specSame_ev (l m : List Int) (hl : l.length ≤ 9223372036854775000) (hm : m.length ≤ 9223372036854775000) : Ev (fun k => spec_TriSame.f k l m) (dec (Tri l ∧ Tri m ∧ wrap64 (rd l 0 * rd m 1) = wrap64 (rd l 1 * rd m 0) ∧ wrap64 (rd l 0 * rd m 2) = wrap64 (rd l 2 * rd m 0))) := by
  simp only [spec_TriSame.f]
  refine Ev.bind (st_ev l hl) ?_
  by_cases h1 : Tri l
  · refine ev_pos (dec_true h1) (Ev.bind (st_ev m hm) ?_)
    by_cases h2 : Tri m
    · have a := h1.1
      have b := h2.1
      refine ev_pos (dec_true h2) (ev_pos (by omega) (ev_pos (by omega) (ev_pos (by omega) (ev_pos (by omega) ?_))))
      by_cases h3 : wrap64 (rd l 0 * rd m 1) = wrap64 (rd l 1 * rd m 0)
      · refine ev_pos h3 (ev_pos (by omega) (ev_pos (by omega) (ev_some ?_)))
        by_cases h4 : wrap64 (rd l 0 * rd m 2) = wrap64 (rd l 2 * rd m 0)
        · rw [dec_true ⟨h1, h2, h3, h4⟩]; simpa using h4
        · rw [dec_false (fun g => h4 g.2.2.2)]; simpa using h4
      · exact ev_neg h3 (ev_some (dec_false (fun g => h3 g.2.2.1)).symm)
    · exact ev_neg (by rw [dec_false h2]; simp) (ev_some (dec_false (fun g => h2 g.2.1)).symm)
  · exact ev_neg (by rw [dec_false h1]; simp) (ev_some (dec_false (fun g => h1 g.1)).symm)
theorem implSame_ev (l m : List Int) (hl : l.length ≤ 9223372036854775000) (hm : m.length ≤ 9223372036854775000) : Ev (fun k => impl_TriSame.f k l m) (dec (Tri l ∧ Tri m ∧ wrap64 (rd l 0 * rd m 1) = wrap64 (rd l 1 * rd m 0) ∧ wrap64 (rd l 0 * rd m 2) = wrap64 (rd l 2 * rd m 0))) := by
  simp only [impl_TriSame.f]
  refine Ev.bind (it_ev l hl) ?_
  by_cases h1 : Tri l
  · refine ev_pos (dec_true h1) (Ev.bind (it_ev m hm) ?_)
    by_cases h2 : Tri m
    · have a := h1.1
      have b := h2.1
      refine ev_pos (dec_true h2) (ev_pos (by omega) (ev_pos (by omega) (ev_pos (by omega) (ev_pos (by omega) ?_))))
      by_cases h3 : wrap64 (rd l 0 * rd m 1) = wrap64 (rd l 1 * rd m 0)
      · refine ev_pos h3 (ev_pos (by omega) (ev_pos (by omega) (ev_some ?_)))
        by_cases h4 : wrap64 (rd l 0 * rd m 2) = wrap64 (rd l 2 * rd m 0)
        · rw [dec_true ⟨h1, h2, h3, h4⟩]; simpa using h4
        · rw [dec_false (fun g => h4 g.2.2.2)]; simpa using h4
      · exact ev_neg h3 (ev_some (dec_false (fun g => h3 g.2.2.1)).symm)
    · exact ev_neg (by rw [dec_false h2]; simp) (ev_some (dec_false (fun g => h2 g.2.1)).symm)
  · exact ev_neg (by rw [dec_false h1]; simp) (ev_some (dec_false (fun g => h1 g.1)).symm)

theorem mulb {x y A B : Int} (hx : 1 ≤ x ∧ x ≤ A) (hy : 1 ≤ y ∧ y ≤ B) : 1 ≤ x * y ∧ x * y ≤ A * B := by
  have h1 : 1 * 1 ≤ x * y := Int.mul_le_mul hx.1 hy.1 (by omega) (by omega)
  have h2 : x * y ≤ A * B := Int.mul_le_mul hx.2 hy.2 (by omega) (by omega)
  omega
theorem sqb {x A : Int} (h0 : -A ≤ x) (h1 : x ≤ A) : 0 ≤ x * x ∧ x * x ≤ A * A := by
  rcases Int.le_total 0 x with h | h
  · exact ⟨Int.mul_nonneg h h, Int.mul_le_mul h1 h1 h (by omega)⟩
  · have e : x * x = (-x) * (-x) := by rw [Int.neg_mul_neg]
    rw [e]
    exact ⟨Int.mul_nonneg (by omega) (by omega), Int.mul_le_mul (by omega) (by omega) (by omega) (by omega)⟩

def kndv (l : List Int) : ByteArray := if l.getD 2 0 * l.getD 2 0 < l.getD 0 0 * l.getD 0 0 + l.getD 1 0 * l.getD 1 0 then ⟨#[97]⟩ else if l.getD 2 0 * l.getD 2 0 = l.getD 0 0 * l.getD 0 0 + l.getD 1 0 * l.getD 1 0 then ⟨#[114]⟩ else ⟨#[111]⟩
noncomputable def knd (l : List Int) : ByteArray × Bool := if dec (Tri l) = true then (kndv l, true) else (⟨#[]⟩, false)
theorem knd_pos {l : List Int} (h : Tri l) : knd l = (kndv l, true) := by unfold knd; rw [if_pos (dec_true h)]
theorem knd_neg {l : List Int} (h : ¬ Tri l) : knd l = (⟨#[]⟩, false) := by unfold knd; rw [if_neg (by rw [dec_false h]; simp)]

theorem ikind_ev (l : List Int) (hl : l.length ≤ 9223372036854775000) : Ev (fun k => impl_TriKind.f k l) (knd l) := by
  simp only [impl_TriKind.f]
  refine Ev.bind (it_ev l hl) ?_
  by_cases h : Tri l
  · have h3 := h.1
    obtain ⟨i0, i1, i2, i3, i4⟩ := tri_in h.2.1 h3
    rw [knd_pos h, rd_0, rd_1, rd_2]
    refine ev_pos (dec_true h) (ev_pos (by omega) (ev_pos (by omega) (ev_pos (by omega) ?_)))
    unfold kndv
    generalize l.getD 0 0 = x at *
    generalize l.getD 1 0 = y at *
    generalize l.getD 2 0 = z at *
    have q1 := mulb i0 i0
    have q2 := mulb i1 i1
    have q3 := mulb i2 i2
    rw [w64 (n := x * x) (by omega) (by omega), w64 (n := y * y) (by omega) (by omega), w64 (n := z * z) (by omega) (by omega), w64 (n := z * z - x * x) (by omega) (by omega), w64 (n := z * z - x * x - y * y) (by omega) (by omega)]
    by_cases c1 : z * z - x * x - y * y < 0
    · refine ev_pos c1 (ev_some ?_)
      rw [if_pos (by omega)]
    · refine ev_neg c1 ?_
      by_cases c2 : z * z - x * x - y * y = 0
      · refine ev_pos c2 (ev_some ?_)
        rw [if_neg (show ¬ z * z < x * x + y * y by omega), if_pos (show z * z = x * x + y * y by omega)]
      · refine ev_neg c2 (ev_some ?_)
        rw [if_neg (show ¬ z * z < x * x + y * y by omega), if_neg (show ¬ z * z = x * x + y * y by omega)]
  · have e : ¬ dec (Tri l) = true := by rw [dec_false h]; simp
    rw [knd_neg h]
    exact ev_neg e (Ev.now _)

theorem xor_nat (a b : Nat) (ha : a < 2 ^ 62) (hb : b < 2 ^ 62) : Go.bits .xor .i64 (a : Int) (b : Int) = ((a ^^^ b : Nat) : Int) := by
  have ha' : a % 2 ^ 64 = a := Nat.mod_eq_of_lt (Nat.lt_of_lt_of_le ha (by decide))
  have hb' : b % 2 ^ 64 = b := Nat.mod_eq_of_lt (Nat.lt_of_lt_of_le hb (by decide))
  have hx : a ^^^ b < 2 ^ 62 := Nat.xor_lt_two_pow ha hb
  show IntKind.i64.wrap (((BitVec.ofInt 64 (a : Int) ^^^ BitVec.ofInt 64 (b : Int)).toNat : Nat) : Int) = _
  rw [BitVec.ofInt_natCast, BitVec.ofInt_natCast, BitVec.toNat_xor, BitVec.toNat_ofNat, BitVec.toNat_ofNat, ha', hb', IntKind.wrap_i64]
  have : (2 : Nat) ^ 62 = 4611686018427387904 := by decide
  omega
theorem xor_pos {a b : Int} (ha : 0 ≤ a) (hb : 0 ≤ b) (ha1 : a < 4611686018427387904) (hb1 : b < 4611686018427387904) : 0 ≤ Go.bits .xor .i64 a b := by
  obtain ⟨x, rfl⟩ := Int.eq_ofNat_of_zero_le ha
  obtain ⟨y, rfl⟩ := Int.eq_ofNat_of_zero_le hb
  have e : (2 : Nat) ^ 62 = 4611686018427387904 := by decide
  rw [xor_nat x y (by omega) (by omega)]
  exact Int.natCast_nonneg _
def Rdr (bs : List Int) : Prop := bs.length ≤ 2000 ∧ ∀ i : Int, 0 ≤ rd bs i ∧ rd bs i ≤ 255
theorem rdr_of {bs : List Int} (h : bs.length ≤ 2000) (hb : ∀ x ∈ bs, 0 ≤ x ∧ x ≤ 255) : Rdr bs := by
  refine ⟨h, fun i => ?_⟩
  unfold rd
  rw [List.getD_eq_getElem?_getD]
  by_cases g : i.toNat < bs.length
  · rw [List.getElem?_eq_getElem g]; exact hb _ (List.getElem_mem g)
  · rw [List.getElem?_eq_none (by omega)]; simp
theorem tmod_in {a n : Int} (ha : 0 ≤ a) (hn : 0 < n) : 0 ≤ Int.tmod a n ∧ Int.tmod a n < n := by
  rw [Int.tmod_eq_emod_of_nonneg ha]
  exact ⟨Int.emod_nonneg _ (by omega), Int.emod_lt_of_pos _ hn⟩
theorem pick_ev (bs : List Int) (p n : Int) (hr : Rdr bs) (h0 : 0 ≤ p) (h1 : p ≤ 1000000) (hn : n ≤ 1000000000) :
    ∃ r, Ev (fun k => spec_l6Rd_pick.f k bs p n) (r, p + 1) ∧ 0 ≤ r ∧ (1 ≤ n → r < n) ∧ (n < 1 → r = 0) := by
  have hw : wrap64 (p + 1) = p + 1 := w64 (by omega) (by omega)
  simp only [spec_l6Rd_pick.f, hw]
  by_cases c : n < 1
  · refine ⟨0, ev_pos c (Ev.step (fun k => rfl) ?_), by omega, by omega, fun _ => rfl⟩
    simp only [spec_l6Rd_pick.j0]
    exact ev_pos (by simp) (Ev.now _)
  · by_cases e : bs.length = 0
    · refine ⟨0, ev_neg c (Ev.step (fun k => rfl) ?_), by omega, by omega, by omega⟩
      simp only [spec_l6Rd_pick.j0]
      exact ev_pos (by simp [e]) (Ev.now _)
    · have hw2 : wrap64 (p + 1 - 1) = p := by rw [w64 (by omega) (by omega)]; omega
      have hnz : ¬ ((bs.length : Int) == 0) = true := by simp; exact fun h => e (by rw [h]; rfl)
      by_cases g : p < bs.length
      · have b := hr.2 p
        have hm := tmod_in b.1 (show 0 < n by omega)
        refine ⟨Int.tmod (rd bs p) n, ev_neg c (Ev.step (fun k => rfl) ?_), hm.1, fun _ => hm.2, by omega⟩
        simp only [spec_l6Rd_pick.j0, hw2]
        rw [w64 (n := rd bs p) (by omega) (by omega)]
        exact ev_neg hnz (ev_pos g (ev_pos h0 (ev_neg (by omega) (Ev.now _))))
      · have hl : 0 < (bs.length : Int) := by omega
        have hl2 := hr.1
        have m1 := tmod_in h0 hl
        have m2 := tmod_in (show 0 ≤ p * 7 + 3 by omega) hl
        have b1 := hr.2 (Int.tmod p bs.length)
        have b2 := hr.2 (Int.tmod (p * 7 + 3) bs.length)
        have q0 : 0 ≤ Int.tdiv p bs.length := Int.tdiv_nonneg h0 (by omega)
        have q1 : Int.tdiv p bs.length ≤ p := by
          rw [Int.tdiv_eq_ediv_of_nonneg h0]; exact Int.ediv_le_self _ h0
        generalize hA : rd bs (Int.tmod p bs.length) = A at b1
        generalize hB : rd bs (Int.tmod (p * 7 + 3) bs.length) = B at b2
        generalize hC : Int.tdiv p bs.length = C at q0 q1
        have hX : wrap64 (wrap64 (wrap64 (wrap64 A * 131) + wrap64 (wrap64 B * 1117)) + wrap64 (p * 29)) = A * 131 + B * 1117 + p * 29 := by
          unfold wrap64; omega
        have hY : wrap64 ((A * 131 + B * 1117 + p * 29) + wrap64 (wrap64 C * 53)) = A * 131 + B * 1117 + p * 29 + C * 53 := by
          unfold wrap64; omega
        have hD : wrap64 (Int.tdiv (A * 131 + B * 1117 + p * 29 + C * 53) 64) = (A * 131 + B * 1117 + p * 29 + C * 53) / 64 := by
          rw [Int.tdiv_eq_ediv_of_nonneg (by omega)]; unfold wrap64; omega
        have hx := xor_pos (a := A * 131 + B * 1117 + p * 29 + C * 53) (b := (A * 131 + B * 1117 + p * 29 + C * 53) / 64) (by omega) (by omega) (by omega) (by omega)
        have hm := tmod_in hx (show 0 < n by omega)
        refine ⟨_, ev_neg c (Ev.step (fun k => rfl) ?_), hm.1, fun _ => hm.2, by omega⟩
        simp only [spec_l6Rd_pick.j0, hw2, w64 (n := p * 7) (by omega) (by omega), w64 (n := p * 7 + 3) (by omega) (by omega), hA, hB, hC, hX, hY, hD]
        exact ev_neg hnz (ev_neg g (ev_neg (by omega) (ev_pos m1.1 (ev_pos m1.2 (ev_pos m2.1 (ev_pos m2.2 (ev_neg (by omega) (Ev.now _))))))))
theorem open_ev (l : List Int) (hb : ∀ x ∈ l, 0 ≤ x ∧ x ≤ 255) : ∃ bs, spec_l6Open.f l = some (bs, 0) ∧ Rdr bs := by
  unfold spec_l6Open.f
  by_cases c : (l.length : Int) > 2000
  · refine ⟨l.take 2000, ?_, rdr_of (by simp; omega) (fun x hx => hb x (List.mem_of_mem_take hx))⟩
    rw [if_pos c, if_pos (by omega)]
  · exact ⟨l, by rw [if_neg c], rdr_of (by omega) hb⟩
theorem bytes_in {l : List Int} (h : ∀ x ∈ l, (Lit.int .u8 x).wf = true) : ∀ x ∈ l, 0 ≤ x ∧ x ≤ 255 := by
  intro x hx
  have := h x hx
  simp [Lit.wf, IntKind.min, IntKind.max, IntKind.bits, IntKind.signed] at this
  omega

theorem length_ev (bs : List Int) (p : Int) (hr : Rdr bs) (h0 : 0 ≤ p) (h1 : p ≤ 100000) : ∃ r, Ev (fun k => spec_l91Length.f k bs p) (r, p + 3) ∧ 1 ≤ r ∧ r ≤ 60 := by
  simp only [spec_l91Length.f]
  obtain ⟨r1, e1, b1, c1, _⟩ := pick_ev bs p 12 hr (by omega) (by omega) (by omega)
  obtain ⟨r2, e2, b2, c2, _⟩ := pick_ev bs (p + 1) 6 hr (by omega) (by omega) (by omega)
  obtain ⟨r3, e3, b3, c3, _⟩ := pick_ev bs (p + 1 + 1) 48 hr (by omega) (by omega) (by omega)
  have c1 := c1 (by omega)
  have c2 := c2 (by omega)
  have c3 := c3 (by omega)
  have hd : Int.tdiv r2 5 = r2 / 5 := Int.tdiv_eq_ediv_of_nonneg b2
  have hq : wrap64 (Int.tdiv r2 5) = 0 ∨ wrap64 (Int.tdiv r2 5) = 1 := by rw [hd]; unfold wrap64; omega
  refine ⟨wrap64 (wrap64 (1 + r1) + wrap64 (wrap64 (Int.tdiv r2 5) * r3)), Ev.bind e1 (Ev.bind e2 (Ev.bind e3 (ev_some ?_))), ?_⟩
  · show (_, p + 1 + 1 + 1) = (_, p + 3)
    rw [show p + 1 + 1 + 1 = p + 3 by omega]
  · rcases hq with h | h
    · rw [h]; unfold wrap64; omega
    · rw [h]; unfold wrap64; omega

theorem triangle_ev (bs : List Int) (hr : Rdr bs) (p : Int) (h0 : 0 ≤ p) (hp : p ≤ 100) : ∃ m q, Ev (fun k => spec_l91Triangle.f k bs p) (m, q) ∧ m.length = 3 ∧ 0 ≤ q ∧ q ≤ p + 20 := by
  simp only [spec_l91Triangle.f]
  obtain ⟨a, ea, a1, a2⟩ := length_ev bs p hr (by omega) (by omega)
  obtain ⟨b, eb, b1, b2⟩ := length_ev bs (p + 3) hr (by omega) (by omega)
  obtain ⟨c, ec, _⟩ := pick_ev bs (p + 3 + 3) a hr (by omega) (by omega) (by omega)
  obtain ⟨d, ed, _⟩ := pick_ev bs (p + 3 + 3 + 1) 6 hr (by omega) (by omega) (by omega)
  by_cases h0 : d = 0
  · exact ⟨_, _, Ev.bind ea (Ev.bind eb (Ev.bind ec (Ev.bind ed (ev_pos h0 (Ev.now _))))), rfl, by dsimp only; omega, by dsimp only; omega⟩
  · by_cases h1 : d = 1
    · obtain ⟨e, ee, _⟩ := pick_ev bs (p + 3 + 3 + 1 + 1) 5 hr (by omega) (by omega) (by omega)
      exact ⟨_, _, Ev.bind ea (Ev.bind eb (Ev.bind ec (Ev.bind ed (ev_neg h0 (ev_pos h1 (Ev.bind ee (Ev.now _))))))), rfl, by dsimp only; omega, by dsimp only; omega⟩
    · by_cases h2 : d = 2
      · obtain ⟨e, ee, _⟩ := pick_ev bs (p + 3 + 3 + 1 + 1) 3 hr (by omega) (by omega) (by omega)
        by_cases h3 : e = 0
        · obtain ⟨f, ef, _⟩ := pick_ev bs (p + 3 + 3 + 1 + 1 + 1) 3 hr (by omega) (by omega) (by omega)
          exact ⟨_, _, Ev.bind ea (Ev.bind eb (Ev.bind ec (Ev.bind ed (ev_neg h0 (ev_neg h1 (ev_pos h2 (Ev.bind ee (ev_pos h3 (Ev.bind ef (Ev.now _)))))))))), rfl, by dsimp only; omega, by dsimp only; omega⟩
        · exact ⟨_, _, Ev.bind ea (Ev.bind eb (Ev.bind ec (Ev.bind ed (ev_neg h0 (ev_neg h1 (ev_pos h2 (Ev.bind ee (ev_neg h3 (Ev.now _))))))))), rfl, by dsimp only; omega, by dsimp only; omega⟩
      · exact ⟨_, _, Ev.bind ea (Ev.bind eb (Ev.bind ec (Ev.bind ed (ev_neg h0 (ev_neg h1 (ev_neg h2 (Ev.now _))))))), rfl, by dsimp only; omega, by dsimp only; omega⟩

def stp (x : Int) (out : List Int) : Nat → Nat
  | 0 => 0
  | n + 1 => if x < out.getD n 0 then stp x out n else n + 1
theorem stp_le (x : Int) (out : List Int) : ∀ n, stp x out n ≤ n
  | 0 => Nat.le_refl _
  | n + 1 => by
    unfold stp
    split
    · exact Nat.le_succ_of_le (stp_le x out n)
    · exact Nat.le_refl _
def insA (out : List Int) (x : Int) : List Int := out.take (stp x out out.length) ++ [x] ++ out.drop (stp x out out.length)
def srt (a : List Int) : List Int := a.foldl insA []
theorem insA_length (out : List Int) (x : Int) : (insA out x).length = out.length + 1 := by
  have := stp_le x out out.length
  unfold insA; simp; omega
theorem l1s_l1 (a out : List Int) (i : Nat) (hi : i < a.length) (ha : a.length ≤ 100000) (ho : out.length ≤ 100000) (r : List Int)
    (h : Ev (fun k => spec_l1Sort.l0 k a (insA out (a.getD i 0)) ((i + 1 : Nat) : Int)) r) :
    ∀ n : Nat, n ≤ out.length → stp (a.getD i 0) out n = stp (a.getD i 0) out out.length → Ev (fun k => spec_l1Sort.l1 k a out (i : Int) (n : Int)) r := by
  have hw : wrap64 ((i : Int) + 1) = ((i + 1 : Nat) : Int) := by rw [w64 (by omega) (by omega)]; omega
  intro n
  induction n with
  | zero =>
    intro hn hs
    refine Ev.step (fun k => rfl) ?_
    simp only [spec_l1Sort.l1, Option.bind_some, hw, rd_nat, List.nil_append, Int.toNat_natCast]
    have e : out.take 0 ++ [a.getD i 0] ++ out.drop 0 = insA out (a.getD i 0) := by
      unfold insA; rw [← hs]; rfl
    rw [e]
    exact ev_neg (by omega) (ev_pos (by omega) (ev_pos (by omega) (ev_pos (by simp) (ev_pos (by omega) (ev_pos (by omega) (ev_pos (by simp) (ev_pos (by simp; omega) h)))))))
  | succ n ih =>
    intro hn hs
    have hw1 : wrap64 (((n + 1 : Nat) : Int) - 1) = (n : Int) := by rw [w64 (by omega) (by omega)]; omega
    refine Ev.step (fun k => rfl) ?_
    simp only [spec_l1Sort.l1, Option.bind_some, hw, hw1, rd_nat, List.nil_append, Int.toNat_natCast]
    refine ev_pos (by omega) (ev_pos (by omega) (ev_pos (by omega) (ev_pos (by omega) (ev_pos (by omega) ?_))))
    by_cases c : a.getD i 0 < out.getD n 0
    · refine ev_pos c (ih (by omega) ?_)
      rw [← hs, stp, if_pos c]
    · have e : out.take (n + 1) ++ [a.getD i 0] ++ out.drop (n + 1) = insA out (a.getD i 0) := by
        unfold insA; rw [← hs, stp, if_neg c]
      rw [e]
      exact ev_neg c (ev_pos (by omega) (ev_pos (by omega) (ev_pos (by simp; omega) (ev_pos (by simp; omega) (ev_pos (by simp; omega) h)))))
theorem l1s_l0 (a : List Int) (ha : a.length ≤ 100000) : ∀ d i : Nat, ∀ out : List Int, i + d = a.length → out.length = i → Ev (fun k => spec_l1Sort.l0 k a out (i : Int)) ((a.drop i).foldl insA out) := by
  intro d
  induction d with
  | zero =>
    intro i out hi ho
    refine Ev.step (fun k => rfl) ?_
    simp only [spec_l1Sort.l0]
    rw [List.drop_of_length_le (by omega)]
    exact ev_neg (by omega) (Ev.now _)
  | succ d ih =>
    intro i out hi ho
    refine Ev.step (fun k => rfl) ?_
    simp only [spec_l1Sort.l0]
    rw [List.drop_eq_getElem_cons (by omega), List.foldl_cons]
    have e : a[i]'(by omega) = a.getD i 0 := by simp [List.getD_eq_getElem?_getD, show i < a.length by omega]
    rw [e]
    refine ev_pos (by omega) ?_
    have h := ih (i + 1) (insA out (a.getD i 0)) (by omega) (by rw [insA_length]; omega)
    exact l1s_l1 a out i (by omega) ha (by omega) _ h out.length (Nat.le_refl _) rfl
theorem l1s_ev (a : List Int) (ha : a.length ≤ 100000) : Ev (fun k => spec_l1Sort.f k a) (srt a) := by
  simp only [spec_l1Sort.f]
  exact l1s_l0 a ha a.length 0 [] (by omega) rfl
theorem foldl_insA_length (a : List Int) : ∀ out : List Int, (a.foldl insA out).length = out.length + a.length := by
  induction a with
  | nil => intro out; simp
  | cons x a ih => intro out; rw [List.foldl_cons, ih, insA_length, List.length_cons]; omega
theorem srt_length (a : List Int) : (srt a).length = a.length := by unfold srt; rw [foldl_insA_length]; simp

theorem drawSame_ev (l : List Int) (hb : ∀ x ∈ l, 0 ≤ x ∧ x ≤ 255) : ∃ a b, Ev (fun k => spec_DrawTriSame.f k l) (a, b) ∧ a.length = 3 ∧ b.length = 3 := by
  obtain ⟨bs, ho, hr⟩ := open_ev l hb
  simp only [spec_DrawTriSame.f, ho, Option.bind_some]
  obtain ⟨a, q, ea, ha, q0, q1⟩ := triangle_ev bs hr 0 (by omega) (by omega)
  obtain ⟨k, ek, _⟩ := pick_ev bs q 3 hr q0 (by omega) (by omega)
  obtain ⟨s, es, _⟩ := pick_ev bs (q + 1) 3 hr (by omega) (by omega) (by omega)
  by_cases c : s = 0
  · obtain ⟨t, et, t0, t1, _⟩ := pick_ev bs (q + 1 + 1) 3 hr (by omega) (by omega) (by omega)
    have t1 := t1 (by omega)
    obtain ⟨x, ex, _⟩ := length_ev bs (q + 1 + 1 + 1) hr (by omega) (by omega)
    exact ⟨a, _, Ev.bind ea (Ev.bind ek (ev_pos (by dsimp only; omega) (ev_pos (by dsimp only; omega) (ev_pos (by dsimp only; omega) (Ev.bind es (ev_pos c (Ev.bind et (Ev.bind ex (ev_pos t0 (ev_pos (by simp; omega) (Ev.bind (l1s_ev _ (by simp)) (Ev.now _)))))))))))), ha, by rw [srt_length]; simp⟩
  · exact ⟨a, _, Ev.bind ea (Ev.bind ek (ev_pos (by dsimp only; omega) (ev_pos (by dsimp only; omega) (ev_pos (by dsimp only; omega) (Ev.bind es (ev_neg c (Ev.bind (l1s_ev _ (by simp)) (Ev.now _)))))))), ha, by rw [srt_length]; simp⟩
theorem sgn {P Q x y : Int} (h : P * x = Q * y) (hx : 0 < x) (hy : 0 < y) : (P < 0 ↔ Q < 0) ∧ (P = 0 ↔ Q = 0) := by
  rcases Int.lt_trichotomy P 0 with p | p | p
  · have a := Int.mul_neg_of_neg_of_pos p hx
    rcases Int.lt_trichotomy Q 0 with q | q | q
    · omega
    · rw [q, Int.zero_mul] at h; omega
    · have b := Int.mul_pos q hy; omega
  · rw [p, Int.zero_mul] at h
    rcases Int.lt_trichotomy Q 0 with q | q | q
    · have b := Int.mul_neg_of_neg_of_pos q hy; omega
    · omega
    · have b := Int.mul_pos q hy; omega
  · have a := Int.mul_pos p hx
    rcases Int.lt_trichotomy Q 0 with q | q | q
    · have b := Int.mul_neg_of_neg_of_pos q hy; omega
    · rw [q, Int.zero_mul] at h; omega
    · omega
theorem ratio {a0 a1 a2 b0 b1 b2 : Int} (h1 : a0 * b1 = a1 * b0) (h2 : a0 * b2 = a2 * b0) : (a2 * a2 - a0 * a0 - a1 * a1) * (b0 * b0) = (b2 * b2 - b0 * b0 - b1 * b1) * (a0 * a0) := by grind
theorem FnTriSame : laws_FnTriSame.Pure := by
  intro l g1 g2 hw
  apply Ev.rounds
  simp only [laws_FnTriSame.f]
  by_cases c : (l.length : Int) > 1048576
  · exact ev_pos c (Ev.now _)
  · obtain ⟨a, b, hd, ha, hb⟩ := drawSame_ev l (bytes_in hw)
    refine ev_neg c (Ev.bind hd (Ev.bind (implSame_ev a b (by omega) (by omega)) (Ev.bind (specSame_ev a b (by omega) (by omega)) (ev_pos (by simp) (Ev.step (fun k => rfl) ?_)))))
    simp only [laws_FnTriSame.j0]
    by_cases h : Tri a ∧ Tri b ∧ wrap64 (rd a 0 * rd b 1) = wrap64 (rd a 1 * rd b 0) ∧ wrap64 (rd a 0 * rd b 2) = wrap64 (rd a 2 * rd b 0)
    · rw [dec_true h]
      obtain ⟨ta, tb, h3, h4⟩ := h
      refine ev_neg (by simp) (Ev.bind (ikind_ev a (by omega)) (Ev.bind (ikind_ev b (by omega)) ?_))
      have hk : kndv a = kndv b := by
        obtain ⟨i0, i1, i2, _, _⟩ := tri_in ta.2.1 ta.1
        obtain ⟨k0, k1, k2, _, _⟩ := tri_in tb.2.1 tb.1
        rw [rd_0, rd_1, rd_0, rd_1] at h3
        rw [rd_0, rd_2, rd_0, rd_2] at h4
        unfold kndv
        generalize a.getD 0 0 = x at *
        generalize a.getD 1 0 = y at *
        generalize a.getD 2 0 = z at *
        generalize b.getD 0 0 = u at *
        generalize b.getD 1 0 = v at *
        generalize b.getD 2 0 = w at *
        have m1 := mulb i0 k1
        have m2 := mulb i1 k0
        have m3 := mulb i0 k2
        have m4 := mulb i2 k0
        rw [w64 (by omega) (by omega), w64 (by omega) (by omega)] at h3 h4
        have s := sgn (ratio h3 h4) (Int.mul_pos (by omega) (by omega)) (Int.mul_pos (by omega) (by omega))
        obtain ⟨s1, s2⟩ := s
        have e1 : z * z < x * x + y * y ↔ w * w < u * u + v * v := by
          generalize z * z = Z at *
          generalize x * x = X at *
          generalize y * y = Y at *
          generalize w * w = W at *
          generalize u * u = U at *
          generalize v * v = V at *
          omega
        have e2 : z * z = x * x + y * y ↔ w * w = u * u + v * v := by
          generalize z * z = Z at *
          generalize x * x = X at *
          generalize y * y = Y at *
          generalize w * w = W at *
          generalize u * u = U at *
          generalize v * v = V at *
          omega
        by_cases c1 : z * z < x * x + y * y
        · rw [if_pos c1, if_pos (e1.mp c1)]
        · rw [if_neg c1, if_neg (fun g => c1 (e1.mpr g))]
          by_cases c2 : z * z = x * x + y * y
          · rw [if_pos c2, if_pos (e2.mp c2)]
          · rw [if_neg c2, if_neg (fun g => c2 (e2.mpr g))]
      rw [knd_pos ta, knd_pos tb, hk]
      refine ev_pos rfl (ev_pos rfl (ev_pos rfl (Ev.bind (implSame_ev b a (by omega) (by omega)) (ev_some (dec_true ⟨tb, ta, ?_, ?_⟩)))))
      · rw [Int.mul_comm (rd b 0), Int.mul_comm (rd b 1)]; exact h3.symm
      · rw [Int.mul_comm (rd b 0), Int.mul_comm (rd b 2)]; exact h4.symm
    · rw [dec_false h]
      exact ev_pos (by simp) (ev_some (by simp))

end Go.Proofs.Ytclgbglilekceaa.Pure
