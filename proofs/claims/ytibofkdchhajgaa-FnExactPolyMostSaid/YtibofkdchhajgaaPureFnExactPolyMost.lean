/- The pure statement of FnExactPolyMost: for every input the law answers true; no condition. -/
import Derived.Test.YtibofkdchhajgaaQFnExactPolyMostx3
namespace Go.Proofs.Ytibofkdchhajgaa.Pure
open Go.RowKit Go.Proofs.Ytibofkdchhajgaa.QFnExactPolyMost Go.Proofs.YtibofkdchhajgaaW.PrintWords Go.Proofs.YtibofkdchhajgaaW.PrintLast Go.Proofs.YtibofkdchhajgaaW.PrintMore

theorem ev_pos {α : Type} {c : Prop} [Decidable c] {A B : Nat → Option α} {r : α} (h : c) (e : Ev A r) : Ev (fun k => if c then A k else B k) r := by
  simpa only [if_pos h] using e
theorem ev_neg {α : Type} {c : Prop} [Decidable c] {A B : Nat → Option α} {r : α} (h : ¬ c) (e : Ev B r) : Ev (fun k => if c then A k else B k) r := by
  simpa only [if_neg h] using e
theorem ev_eq {α : Type} {A : Nat → Option α} {r r' : α} (h : r = r') (e : Ev A r) : Ev A r' := h ▸ e
theorem ev_some {α : Type} {r r' : α} (h : r = r') : Ev (fun _ => some r) r' := h ▸ Ev.now r
theorem w64 {n : Int} (h0 : -9223372036854775808 ≤ n) (h1 : n ≤ 9223372036854775807) : wrap64 n = n := by unfold wrap64; omega
theorem rd_nat (l : List Int) (i : Nat) : rd l (i : Int) = l.getD i 0 := by simp [rd]
noncomputable def dec (P : Prop) : Bool := @decide P (Classical.propDecidable P)
theorem dec_true {P : Prop} (h : P) : dec P = true := @decide_eq_true P (Classical.propDecidable P) h
theorem dec_false {P : Prop} (h : ¬ P) : dec P = false := @decide_eq_false P (Classical.propDecidable P) h
theorem dec_iff {P : Prop} : dec P = true ↔ P := ⟨fun h => @of_decide_eq_true P (Classical.propDecidable P) h, dec_true⟩
theorem dec_congr {P Q : Prop} (h : P ↔ Q) : dec P = dec Q := by
  by_cases p : P
  · rw [dec_true p, dec_true (h.mp p)]
  · rw [dec_false p, dec_false (fun q => p (h.mpr q))]
theorem dec_dec {P : Prop} [Decidable P] : decide P = dec P := by
  by_cases p : P
  · rw [dec_true p, decide_eq_true p]
  · rw [dec_false p, decide_eq_false p]

def Bnd (l : List Int) : Prop := 1 ≤ l.length ∧ l.length ≤ 9 ∧ (∀ j : Nat, j < l.length → 1 ≤ l.getD j 0 ∧ l.getD j 0 ≤ 60) ∧ (∀ j : Nat, j + 1 < l.length → l.getD j 0 ≤ l.getD (j + 1) 0)

theorem l6In_eq (a b c : Int) : spec_l6In.f a b c = some (decide (b ≤ a ∧ a ≤ c)) := by
  unfold spec_l6In.f
  by_cases h : a ≥ b
  · rw [if_pos h]; congr 1; by_cases g : a ≤ c
    · rw [decide_eq_true g, decide_eq_true ⟨h, g⟩]
    · rw [decide_eq_false g, decide_eq_false (fun x => g x.2)]
  · rw [if_neg h, decide_eq_false (fun x => h x.1)]

theorem sb_l0 (l : List Int) (hl : l.length ≤ 9223372036854775000) : ∀ d i : Nat, i + d = l.length →
    Ev (fun k => spec_l1Bundle.l0 k l (i : Int)) (dec ((∀ j : Nat, i ≤ j → j < l.length → (1 ≤ l.getD j 0 ∧ l.getD j 0 ≤ 60) ∧ (0 < j → l.getD (j - 1) 0 ≤ l.getD j 0)) ∧ 1 ≤ l.length ∧ l.length ≤ 9)) := by
  intro d
  induction d with
  | zero =>
    intro i hi
    refine Ev.step (fun k => rfl) ?_
    simp only [spec_l1Bundle.l0, l6In_eq, Option.bind_some]
    refine ev_neg (by omega) (ev_some ?_)
    rw [dec_dec]
    exact dec_congr ⟨fun h => ⟨fun j h1 h2 => by omega, by omega, by omega⟩, fun h => by omega⟩
  | succ d ih =>
    intro i hi
    refine Ev.step (fun k => rfl) ?_
    simp only [spec_l1Bundle.l0, l6In_eq, Option.bind_some, rd_nat]
    have hw : wrap64 ((i : Int) + 1) = ((i + 1 : Nat) : Int) := by rw [w64 (by omega) (by omega)]; omega
    have hlt : (i : Int) < (l.length : Int) := by omega
    refine ev_pos hlt (ev_pos (by omega) ?_)
    by_cases hr : 1 ≤ l.getD i 0 ∧ l.getD i 0 ≤ 60
    · refine ev_pos (decide_eq_true hr) ?_
      by_cases h0 : (i : Int) > 0
      · have hw1 : wrap64 ((i : Int) - 1) = ((i - 1 : Nat) : Int) := by rw [w64 (by omega) (by omega)]; omega
        rw [hw1, rd_nat]
        refine ev_pos h0 (ev_pos (by omega) (ev_pos (by omega) ?_))
        by_cases hs : l.getD i 0 < l.getD (i - 1) 0
        · refine ev_pos hs (ev_some (dec_false ?_).symm)
          intro h
          have := (h.1 i (Nat.le_refl _) (by omega)).2 (by omega)
          omega
        · refine ev_neg hs ?_
          rw [hw]
          refine ev_eq (dec_congr ?_) (ih (i + 1) (by omega))
          constructor
          · rintro ⟨h, g⟩
            refine ⟨fun j h1 h2 => ?_, g⟩
            by_cases e : j = i
            · subst e; exact ⟨hr, fun _ => by omega⟩
            · exact h j (by omega) h2
          · rintro ⟨h, g⟩
            exact ⟨fun j h1 h2 => h j (by omega) h2, g⟩
      · refine ev_neg h0 ?_
        rw [hw]
        refine ev_eq (dec_congr ?_) (ih (i + 1) (by omega))
        constructor
        · rintro ⟨h, g⟩
          refine ⟨fun j h1 h2 => ?_, g⟩
          by_cases e : j = i
          · subst e; exact ⟨hr, fun _ => by omega⟩
          · exact h j (by omega) h2
        · rintro ⟨h, g⟩
          exact ⟨fun j h1 h2 => h j (by omega) h2, g⟩
    · refine ev_neg (by simpa using hr) (ev_some (dec_false ?_).symm)
      intro h
      exact hr (h.1 i (Nat.le_refl _) (by omega)).1

theorem sb_ev (l : List Int) (hl : l.length ≤ 9223372036854775000) : Ev (fun k => spec_l1Bundle.f k l) (dec (Bnd l)) := by
  simp only [spec_l1Bundle.f]
  refine ev_eq (dec_congr ?_) (sb_l0 l hl l.length 0 (by omega))
  unfold Bnd
  constructor
  · rintro ⟨h, g1, g2⟩
    exact ⟨g1, g2, fun j hj => (h j (Nat.zero_le _) hj).1, fun j hj => (h (j + 1) (Nat.zero_le _) hj).2 (by omega)⟩
  · rintro ⟨g1, g2, h, s⟩
    refine ⟨fun j _ hj => ⟨h j hj, fun h0 => ?_⟩, g1, g2⟩
    have := s (j - 1) (by omega)
    rwa [show j - 1 + 1 = j by omega] at this

theorem ir_l0 (l : List Int) (hl : l.length ≤ 9223372036854775000) : ∀ d i : Nat, i + d = l.length →
    Ev (fun k => impl_isRuler.l0 k l l (l.length : Int) (i : Int)) (dec ((∀ j : Nat, i ≤ j → j < l.length → 1 ≤ l.getD j 0 ∧ l.getD j 0 ≤ 60) ∧ 1 ≤ l.length ∧ l.length ≤ 9)) := by
  intro d
  induction d with
  | zero =>
    intro i hi
    refine Ev.step (fun k => rfl) ?_
    simp only [impl_isRuler.l0]
    refine ev_neg (by omega) ?_
    by_cases h1 : (l.length : Int) ≥ 1
    · refine ev_pos h1 (ev_some ?_)
      rw [dec_dec]
      exact dec_congr ⟨fun h => ⟨fun j h1 h2 => by omega, by omega, by omega⟩, fun h => by omega⟩
    · refine ev_neg h1 (ev_some (dec_false ?_).symm)
      intro h; omega
  | succ d ih =>
    intro i hi
    refine Ev.step (fun k => rfl) ?_
    simp only [impl_isRuler.l0, rd_nat]
    have hw : wrap64 ((i : Int) + 1) = ((i + 1 : Nat) : Int) := by rw [w64 (by omega) (by omega)]; omega
    refine ev_pos (by omega) (ev_pos (by omega) (ev_pos (by omega) ?_))
    by_cases ha : l.getD i 0 < 1
    · refine ev_pos ha (ev_some (dec_false ?_).symm)
      intro h
      have := h.1 i (Nat.le_refl _) (by omega)
      omega
    · refine ev_neg ha ?_
      by_cases hb : l.getD i 0 > 60
      · refine ev_pos hb (ev_some (dec_false ?_).symm)
        intro h
        have := h.1 i (Nat.le_refl _) (by omega)
        omega
      · refine ev_neg hb ?_
        rw [hw]
        refine ev_eq (dec_congr ?_) (ih (i + 1) (by omega))
        constructor
        · rintro ⟨h, g⟩
          refine ⟨fun j h1 h2 => ?_, g⟩
          by_cases e : j = i
          · subst e; omega
          · exact h j (by omega) h2
        · rintro ⟨h, g⟩
          exact ⟨fun j h1 h2 => h j (by omega) h2, g⟩

theorem ir_ev (l : List Int) (hl : l.length ≤ 9223372036854775000) : Ev (fun k => impl_isRuler.f k l) (dec ((∀ j : Nat, j < l.length → 1 ≤ l.getD j 0 ∧ l.getD j 0 ≤ 60) ∧ 1 ≤ l.length ∧ l.length ≤ 9)) := by
  simp only [impl_isRuler.f]
  refine ev_eq (dec_congr ?_) (ir_l0 l hl l.length 0 (by omega))
  exact ⟨fun h => ⟨fun j hj => h.1 j (Nat.zero_le _) hj, h.2⟩, fun h => ⟨fun j _ hj => h.1 j hj, h.2⟩⟩

theorem less_eq (a b : Int) : cmp_Less_int.f a b = some (decide (a < b)) := by
  simp [cmp_Less_int.f, cmp_isNaN_int.f]

theorem is_l0 (l : List Int) (hl : l.length ≤ 9223372036854775000) : ∀ i : Nat, i < l.length ∨ i = 0 →
    Ev (fun k => slices_IsSorted_int_int.l0 k l (i : Int)) (dec (∀ j : Nat, j < i → l.getD j 0 ≤ l.getD (j + 1) 0)) := by
  intro i
  induction i with
  | zero =>
    intro _
    refine Ev.step (fun k => rfl) ?_
    simp only [slices_IsSorted_int_int.l0]
    refine ev_neg (by omega) (ev_some (dec_true ?_).symm)
    intro j hj; omega
  | succ i ih =>
    intro hi
    have hi' : i + 1 < l.length := by omega
    have hw : wrap64 (((i + 1 : Nat) : Int) - 1) = (i : Int) := by rw [w64 (by omega) (by omega)]; omega
    refine Ev.step (fun k => rfl) ?_
    simp only [slices_IsSorted_int_int.l0, hw, rd_nat, less_eq, Option.bind_some]
    refine ev_pos (by omega) (ev_pos (by omega) (ev_pos (by omega) (ev_pos (by omega) (ev_pos (by omega) ?_))))
    by_cases hs : l.getD (i + 1) 0 < l.getD i 0
    · refine ev_pos (decide_eq_true hs) (ev_some (dec_false ?_).symm)
      intro h
      have := h i (by omega)
      omega
    · refine ev_neg (by simpa using hs) ?_
      refine ev_eq (dec_congr ?_) (ih (by omega))
      constructor
      · intro h j hj
        by_cases e : j = i
        · subst e; omega
        · exact h j (by omega)
      · intro h j hj
        exact h j (by omega)

theorem is_ev (l : List Int) (hl : l.length ≤ 9223372036854775000) : Ev (fun k => slices_IsSorted_int_int.f k l) (dec (∀ j : Nat, j + 1 < l.length → l.getD j 0 ≤ l.getD (j + 1) 0)) := by
  simp only [slices_IsSorted_int_int.f]
  by_cases h0 : l.length = 0
  · rw [show wrap64 ((l.length : Int) - 1) = -1 by rw [w64 (by omega) (by omega)]; omega]
    refine Ev.step (fun k => rfl) ?_
    simp only [slices_IsSorted_int_int.l0]
    refine ev_neg (by omega) (ev_some (dec_true ?_).symm)
    intro j hj; omega
  · rw [show wrap64 ((l.length : Int) - 1) = ((l.length - 1 : Nat) : Int) by rw [w64 (by omega) (by omega)]; omega]
    refine ev_eq (dec_congr ?_) (is_l0 l hl (l.length - 1) (by omega))
    exact ⟨fun h j hj => h j (by omega), fun h j hj => h j (by omega)⟩

theorem ii_ev (l : List Int) (hl : l.length ≤ 9223372036854775000) : Ev (fun k => impl_StickIn.f k l) (dec (Bnd l)) := by
  simp only [impl_StickIn.f]
  refine Ev.bind (ir_ev l hl) ?_
  by_cases h : (∀ j : Nat, j < l.length → 1 ≤ l.getD j 0 ∧ l.getD j 0 ≤ 60) ∧ 1 ≤ l.length ∧ l.length ≤ 9
  · refine ev_pos (dec_true h) (Ev.bind (is_ev l hl) (ev_some (dec_congr ?_)))
    exact ⟨fun s => ⟨h.2.1, h.2.2, h.1, s⟩, fun b => b.2.2.2⟩
  · refine ev_neg (by rw [dec_false h]; exact Bool.false_ne_true) (ev_some (dec_false ?_).symm)
    exact fun b => h ⟨b.2.2.1, b.1, b.2.1⟩

theorem ti_l0 (l : List Int) (hl : l.length ≤ 9223372036854775000) : ∀ d i : Nat, ∀ m : List Int, i + d = l.length → m.length = l.length → (∀ j : Nat, j < i → m.getD j 0 = l.getD j 0) →
    Ev (fun k => laws_toIntS.l0 k l m (i : Int)) l := by
  intro d
  induction d with
  | zero =>
    intro i m hi hm hj
    refine Ev.step (fun k => rfl) ?_
    simp only [laws_toIntS.l0]
    refine ev_neg (by omega) (ev_some ?_)
    apply List.ext_getElem hm
    intro j h1 h2
    have := hj j (by omega)
    simpa [List.getD_eq_getElem?_getD, h1, h2] using this
  | succ d ih =>
    intro i m hi hm hj
    refine Ev.step (fun k => rfl) ?_
    have hw : wrap64 ((i : Int) + 1) = ((i + 1 : Nat) : Int) := by rw [w64 (by omega) (by omega)]; omega
    simp only [laws_toIntS.l0, hw, rd_nat, Int.toNat_natCast]
    refine ev_pos (by omega) (ev_pos (by omega) (ev_pos (by omega) ?_))
    refine ih (i + 1) _ (by omega) (by simpa using hm) ?_
    intro j hlt
    by_cases e : j = i
    · subst e
      simp [List.getD_eq_getElem?_getD, show j < m.length by omega]
    · have := hj j (by omega)
      simpa [List.getD_eq_getElem?_getD, List.getElem?_set, show i ≠ j by omega] using this

theorem ti_ev (l : List Int) (hl : l.length ≤ 35184372088832) : Ev (fun k => laws_toIntS.f k l) l := by
  simp only [laws_toIntS.f]
  refine ev_pos (by omega) (ev_pos (by omega) ?_)
  exact ti_l0 l (by omega) l.length 0 _ (by omega) (by simp) (fun j hj => by omega)

theorem ei_l0 (l m : List Int) (hl : l.length ≤ 9223372036854775000) (hm : l.length = m.length) : ∀ d i : Nat, i + d = l.length → (∀ j : Nat, j < i → l.getD j 0 = m.getD j 0) →
    Ev (fun k => laws_eqIntS.l0 k l m (i : Int)) (decide (l = m)) := by
  intro d
  induction d with
  | zero =>
    intro i hi hj
    refine Ev.step (fun k => rfl) ?_
    simp only [laws_eqIntS.l0]
    refine ev_neg (by omega) (ev_some (decide_eq_true ?_).symm)
    apply List.ext_getElem hm
    intro j h1 h2
    have := hj j (by omega)
    simpa [List.getD_eq_getElem?_getD, h1, h2] using this
  | succ d ih =>
    intro i hi hj
    refine Ev.step (fun k => rfl) ?_
    have hw : wrap64 ((i : Int) + 1) = ((i + 1 : Nat) : Int) := by rw [w64 (by omega) (by omega)]; omega
    simp only [laws_eqIntS.l0, hw, rd_nat]
    refine ev_pos (by omega) (ev_pos (by omega) (ev_pos (by omega) ?_))
    by_cases e : l.getD i 0 = m.getD i 0
    · refine ev_pos e (ih (i + 1) (by omega) ?_)
      intro j h
      by_cases x : j = i
      · rw [x]; exact e
      · exact hj j (by omega)
    · refine ev_neg e (ev_some (decide_eq_false ?_).symm)
      intro x; exact e (by rw [x])

theorem ei_ev (l m : List Int) (hl : l.length ≤ 9223372036854775000) : Ev (fun k => laws_eqIntS.f k l m) (decide (l = m)) := by
  simp only [laws_eqIntS.f]
  by_cases h : (l.length : Int) = (m.length : Int)
  · exact ev_pos h (ei_l0 l m hl (by omega) l.length 0 (by omega) (fun j hj => by omega))
  · refine ev_neg h (ev_some (decide_eq_false ?_).symm)
    intro x; exact h (by rw [x])

def Sml (l : List Int) : Prop := l.length ≤ 1000 ∧ ∀ j : Nat, 0 ≤ l.getD j 0 ∧ l.getD j 0 ≤ 1000
theorem sml_of_bnd {l : List Int} (h : Bnd l) : Sml l := by
  refine ⟨by have := h.2.1; omega, fun j => ?_⟩
  by_cases hj : j < l.length
  · have := h.2.2.1 j hj; omega
  · rw [List.getD_eq_getElem?_getD, List.getElem?_eq_none (by omega)]; simp
theorem sml_take {l : List Int} (h : Sml l) (n : Nat) : Sml (l.take n) := by
  refine ⟨by simp; have := h.1; omega, fun j => ?_⟩
  have := h.2 j
  rw [List.getD_eq_getElem?_getD] at this ⊢
  rw [List.getElem?_take]
  split
  · exact this
  · simp
theorem drop_cons (l : List Int) (i : Nat) (h : i < l.length) : l.drop i = l.getD i 0 :: l.drop (i + 1) := by
  rw [List.drop_eq_getElem_cons h]; simp [List.getD_eq_getElem?_getD, h]

theorem ssum_l0 (l : List Int) (h : Sml l) : ∀ d i : Nat, ∀ n : Int, i + d = l.length → 0 ≤ n → n ≤ 1000 * i → Ev (fun k => spec_l1Sum.l0 k l n (i : Int)) (n + (l.drop i).sum) := by
  have h1 := h.1
  intro d
  induction d with
  | zero =>
    intro i n hi h0 hn
    refine Ev.step (fun k => rfl) ?_
    simp only [spec_l1Sum.l0]
    refine ev_neg (by omega) (ev_some ?_)
    rw [List.drop_of_length_le (by omega)]; simp
  | succ d ih =>
    intro i n hi h0 hn
    have hx := h.2 i
    refine Ev.step (fun k => rfl) ?_
    have hw : wrap64 ((i : Int) + 1) = ((i + 1 : Nat) : Int) := by rw [w64 (by omega) (by omega)]; omega
    simp only [spec_l1Sum.l0, hw, rd_nat, w64 (n := n + l.getD i 0) (by omega) (by omega)]
    refine ev_pos (by omega) (ev_pos (by omega) ?_)
    rw [drop_cons l i (by omega), List.sum_cons, ← Int.add_assoc]
    exact ih (i + 1) _ (by omega) (by omega) (by omega)
theorem ssum_ev (l : List Int) (h : Sml l) : Ev (fun k => spec_l1Sum.f k l) l.sum := by
  simp only [spec_l1Sum.f]
  have := ssum_l0 l h l.length 0 0 (by omega) (by omega) (by omega)
  simpa using this

theorem isum_l0 (l : List Int) (h : Sml l) : ∀ d i : Nat, ∀ n : Int, i + d = l.length → 0 ≤ n → n ≤ 1000 * i → Ev (fun k => impl_sum.l0 k n l (l.length : Int) (i : Int)) (n + (l.drop i).sum) := by
  have h1 := h.1
  intro d
  induction d with
  | zero =>
    intro i n hi h0 hn
    refine Ev.step (fun k => rfl) ?_
    simp only [impl_sum.l0]
    refine ev_neg (by omega) (ev_some ?_)
    rw [List.drop_of_length_le (by omega)]; simp
  | succ d ih =>
    intro i n hi h0 hn
    have hx := h.2 i
    refine Ev.step (fun k => rfl) ?_
    have hw : wrap64 ((i : Int) + 1) = ((i + 1 : Nat) : Int) := by rw [w64 (by omega) (by omega)]; omega
    simp only [impl_sum.l0, hw, rd_nat, w64 (n := n + l.getD i 0) (by omega) (by omega)]
    refine ev_pos (by omega) (ev_pos (by omega) (ev_pos (by omega) ?_))
    rw [drop_cons l i (by omega), List.sum_cons, ← Int.add_assoc]
    exact ih (i + 1) _ (by omega) (by omega) (by omega)
theorem isum_ev (l : List Int) (h : Sml l) : Ev (fun k => impl_sum.f k l) l.sum := by
  simp only [impl_sum.f]
  have := isum_l0 l h l.length 0 0 (by omega) (by omega) (by omega)
  simpa using this

def gp (l : List Int) : Int := l.sum - 2 * l.getD (l.length - 1) 0
def cls (l : List Int) : Bool := decide (3 ≤ l.length) && decide (0 < gp l)
theorem sum_le : ∀ (l : List Int) (_ : ∀ j : Nat, 0 ≤ l.getD j 0 ∧ l.getD j 0 ≤ 1000), 0 ≤ l.sum ∧ l.sum ≤ 1000 * l.length
  | [], _ => by simp
  | x :: l, h => by
    have h0 := h 0
    have hl := sum_le l (fun j => h (j + 1))
    simp only [List.getD_cons_zero] at h0
    rw [List.sum_cons, List.length_cons]
    omega
theorem sml_sum {l : List Int} (h : Sml l) : 0 ≤ l.sum ∧ l.sum ≤ 1000000 := by
  have := sum_le l h.2
  have := h.1
  omega

theorem sgap_ev (l : List Int) (h : Sml l) (h0 : 0 < l.length) : Ev (fun k => spec_l3Gap.f k l) (gp l) := by
  simp only [spec_l3Gap.f]
  have h1 := h.1
  have hs := sml_sum h
  have hx := h.2 (l.length - 1)
  have hw : wrap64 ((l.length : Int) - 1) = ((l.length - 1 : Nat) : Int) := by rw [w64 (by omega) (by omega)]; omega
  rw [hw, rd_nat]
  refine Ev.bind (ssum_ev l h) (ev_pos (by omega) (ev_pos (by omega) (ev_some ?_)))
  rw [w64 (n := 2 * l.getD (l.length - 1) 0) (by omega) (by omega), w64 (by omega) (by omega)]
  rfl

theorem igap_ev (l : List Int) (h : Sml l) (h0 : 0 < l.length) : Ev (fun k => impl_gap.f k l) (gp l) := by
  simp only [impl_gap.f]
  have h1 := h.1
  have hs := sml_sum h
  have hx := h.2 (l.length - 1)
  have hw : wrap64 ((l.length : Int) - 1) = ((l.length - 1 : Nat) : Int) := by rw [w64 (by omega) (by omega)]; omega
  rw [hw, rd_nat]
  refine Ev.bind (isum_ev l h) (ev_pos (by omega) (ev_pos (by omega) (ev_some ?_)))
  rw [w64 (n := 2 * l.getD (l.length - 1) 0) (by omega) (by omega), w64 (by omega) (by omega)]
  rfl

theorem scls_ev (l : List Int) (h : Sml l) : Ev (fun k => spec_l3Closes.f k l) (cls l) := by
  simp only [spec_l3Closes.f]
  by_cases c : (l.length : Int) ≥ 3
  · refine ev_pos c (Ev.bind (sgap_ev l h (by omega)) (ev_some ?_))
    unfold cls
    rw [decide_eq_true (show 3 ≤ l.length by omega), Bool.true_and]
  · refine ev_neg c (ev_some ?_)
    unfold cls
    rw [decide_eq_false (show ¬ 3 ≤ l.length by omega), Bool.false_and]

theorem icls_ev (l : List Int) (h : Sml l) : Ev (fun k => impl_closes.f k l) (cls l) := by
  simp only [impl_closes.f]
  by_cases c : (l.length : Int) ≥ 3
  · refine ev_pos c (Ev.bind (igap_ev l h (by omega)) (ev_some ?_))
    unfold cls
    rw [decide_eq_true (show 3 ≤ l.length by omega), Bool.true_and]
  · refine ev_neg c (ev_some ?_)
    unfold cls
    rw [decide_eq_false (show ¬ 3 ≤ l.length by omega), Bool.false_and]

def mst (l : List Int) : Nat → Int
  | 0 => 0
  | n + 1 => if cls (l.take (n + 1)) = true then ((n + 1 : Nat) : Int) else mst l n
theorem cls_short (l : List Int) (n : Nat) (h : n < 3) : cls (l.take n) = false := by
  unfold cls
  rw [decide_eq_false (show ¬ 3 ≤ (l.take n).length by simp; omega), Bool.false_and]
theorem mst_short (l : List Int) : ∀ n : Nat, n < 3 → mst l n = 0
  | 0, _ => rfl
  | n + 1, h => by
    unfold mst
    rw [cls_short l (n + 1) h]
    simp [mst_short l n (by omega)]
theorem sm_l0 (l : List Int) (h : Sml l) : ∀ n : Nat, n ≤ l.length → Ev (fun k => spec_l3Most.l0 k l (n : Int)) (mst l n) := by
  intro n
  induction n with
  | zero =>
    intro _
    refine Ev.step (fun k => rfl) ?_
    simp only [spec_l3Most.l0]
    exact ev_neg (by omega) (Ev.now _)
  | succ n ih =>
    intro hn
    have h1 := h.1
    refine Ev.step (fun k => rfl) ?_
    have hw : wrap64 (((n + 1 : Nat) : Int) - 1) = (n : Int) := by rw [w64 (by omega) (by omega)]; omega
    simp only [spec_l3Most.l0, hw, Int.toNat_natCast]
    by_cases c : n + 1 < 3
    · refine ev_neg (by omega) (ev_some (mst_short l (n + 1) c).symm)
    · refine ev_pos (by omega) (ev_pos (by omega) (ev_pos (by omega) (Ev.bind (scls_ev _ (sml_take h _)) ?_)))
      by_cases e : cls (l.take (n + 1)) = true
      · exact ev_pos e (ev_some (by rw [mst, if_pos e]))
      · refine ev_neg e ?_
        rw [mst, if_neg e]
        exact ih (by omega)
theorem im_l0 (l : List Int) (h : Sml l) : ∀ n : Nat, n ≤ l.length → Ev (fun k => impl_PolyMost.l0 k l (n : Int)) (mst l n, true) := by
  intro n
  induction n with
  | zero =>
    intro _
    refine Ev.step (fun k => rfl) ?_
    simp only [impl_PolyMost.l0]
    exact ev_neg (by omega) (Ev.now _)
  | succ n ih =>
    intro hn
    have h1 := h.1
    refine Ev.step (fun k => rfl) ?_
    have hw : wrap64 (((n + 1 : Nat) : Int) - 1) = (n : Int) := by rw [w64 (by omega) (by omega)]; omega
    simp only [impl_PolyMost.l0, hw, Int.toNat_natCast]
    by_cases c : n + 1 < 3
    · refine ev_neg (by omega) (ev_some (by rw [mst_short l (n + 1) c]))
    · refine ev_pos (by omega) (ev_pos (by omega) (ev_pos (by omega) (Ev.bind (icls_ev _ (sml_take h _)) ?_)))
      by_cases e : cls (l.take (n + 1)) = true
      · exact ev_pos e (ev_some (by rw [mst, if_pos e]))
      · refine ev_neg e ?_
        rw [mst, if_neg e]
        exact ih (by omega)
theorem both (l : List Int) (hl : l.length ≤ 9223372036854775000) : ∃ r, Ev (fun k => spec_PolyMost.f k l) r ∧ Ev (fun k => impl_PolyMost.f k l) r := by
  simp only [spec_PolyMost.f, impl_PolyMost.f, spec_l3Most.f]
  by_cases h : Bnd l
  · have s := sml_of_bnd h
    exact ⟨(mst l l.length, true), Ev.bind (sb_ev l hl) (ev_pos (dec_true h) (Ev.bind (sm_l0 l s l.length (Nat.le_refl _)) (Ev.now _))), Ev.bind (ii_ev l hl) (ev_pos (dec_true h) (im_l0 l s l.length (Nat.le_refl _)))⟩
  · have e : ¬ dec (Bnd l) = true := by rw [dec_false h]; simp
    exact ⟨(0, false), Ev.bind (sb_ev l hl) (ev_neg e (Ev.now _)), Ev.bind (ii_ev l hl) (ev_neg e (Ev.now _))⟩
theorem FnExactPolyMost : laws_FnExactPolyMost.Pure := by
  intro l h1 h2 hw
  apply Ev.rounds
  simp only [laws_FnExactPolyMost.f]
  by_cases c : (l.length : Int) > 1048576
  · exact ev_pos c (Ev.now _)
  · obtain ⟨r, es, ei⟩ := both l (by omega)
    have tl := ti_ev l (by omega)
    refine ev_neg c (Ev.bind tl (Ev.bind es (Ev.bind tl (Ev.bind ei (ev_pos rfl (Ev.step (fun k => rfl) ?_))))))
    simp only [laws_FnExactPolyMost.j0]
    exact ev_neg (by simp) (Ev.bind tl (Ev.bind (ei_ev l l (by omega)) (ev_pos (by simp) (Ev.now _))))

end Go.Proofs.Ytibofkdchhajgaa.Pure
