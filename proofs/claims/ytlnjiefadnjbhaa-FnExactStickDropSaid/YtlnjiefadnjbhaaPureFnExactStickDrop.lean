/- The pure statement of FnExactStickDrop: for every input the law answers true; no condition. -/
import Derived.Test.YtlnjiefadnjbhaaQFnExactStickDropx3
namespace Go.Proofs.Ytlnjiefadnjbhaa.Pure
open Go.RowKit Go.Proofs.Ytlnjiefadnjbhaa.QFnExactStickDrop Go.Proofs.YtlnjiefadnjbhaaW.PrintWords Go.Proofs.YtlnjiefadnjbhaaW.PrintLast Go.Proofs.YtlnjiefadnjbhaaW.PrintMore

theorem ev_pos {α : Type} {c : Prop} [Decidable c] {A B : Nat → Option α} {r : α} (h : c) (e : Ev A r) : Ev (fun k => if c then A k else B k) r := by
  simpa only [if_pos h] using e
theorem ev_neg {α : Type} {c : Prop} [Decidable c] {A B : Nat → Option α} {r : α} (h : ¬ c) (e : Ev B r) : Ev (fun k => if c then A k else B k) r := by
  simpa only [if_neg h] using e
theorem ev_eq {α : Type} {A : Nat → Option α} {r r' : α} (h : r = r') (e : Ev A r) : Ev A r' := h ▸ e
theorem ev_some {α : Type} {r r' : α} (h : r = r') : Ev (fun _ => some r) r' := h ▸ Ev.now r
theorem w64 {n : Int} (h0 : -9223372036854775808 ≤ n) (h1 : n ≤ 9223372036854775807) : wrap64 n = n := by unfold wrap64; omega
theorem rd_nat (l : List Int) (i : Nat) : rd l (i : Int) = l.getD i 0 := by simp [rd]
noncomputable def dec (P : Prop) : Bool := @decide P (Classical.propDecidable P)
theorem dec_true {P : Prop} (h : P) : dec P = true := @decide_eq_true P (Classical.propDecidable P) h
theorem dec_false {P : Prop} (h : ¬ P) : dec P = false := @decide_eq_false P (Classical.propDecidable P) h
theorem dec_iff {P : Prop} : dec P = true ↔ P := ⟨fun h => @of_decide_eq_true P (Classical.propDecidable P) h, dec_true⟩
theorem dec_congr {P Q : Prop} (h : P ↔ Q) : dec P = dec Q := by
  by_cases p : P
  · rw [dec_true p, dec_true (h.mp p)]
  · rw [dec_false p, dec_false (fun q => p (h.mpr q))]
theorem dec_dec {P : Prop} [Decidable P] : decide P = dec P := by
  by_cases p : P
  · rw [dec_true p, decide_eq_true p]
  · rw [dec_false p, decide_eq_false p]

def Bnd (l : List Int) : Prop := 1 ≤ l.length ∧ l.length ≤ 9 ∧ (∀ j : Nat, j < l.length → 1 ≤ l.getD j 0 ∧ l.getD j 0 ≤ 60) ∧ (∀ j : Nat, j + 1 < l.length → l.getD j 0 ≤ l.getD (j + 1) 0)

theorem l6In_eq (a b c : Int) : spec_l6In.f a b c = some (decide (b ≤ a ∧ a ≤ c)) := by
  unfold spec_l6In.f
  by_cases h : a ≥ b
  · rw [if_pos h]; congr 1; by_cases g : a ≤ c
    · rw [decide_eq_true g, decide_eq_true ⟨h, g⟩]
    · rw [decide_eq_false g, decide_eq_false (fun x => g x.2)]
  · rw [if_neg h, decide_eq_false (fun x => h x.1)]

theorem sb_l0 (l : List Int) (hl : l.length ≤ 9223372036854775000) : ∀ d i : Nat, i + d = l.length →
    Ev (fun k => spec_l1Bundle.l0 k l (i : Int)) (dec ((∀ j : Nat, i ≤ j → j < l.length → (1 ≤ l.getD j 0 ∧ l.getD j 0 ≤ 60) ∧ (0 < j → l.getD (j - 1) 0 ≤ l.getD j 0)) ∧ 1 ≤ l.length ∧ l.length ≤ 9)) := by
  intro d
  induction d with
  | zero =>
    intro i hi
    refine Ev.step (fun k => rfl) ?_
    simp only [spec_l1Bundle.l0, l6In_eq, Option.bind_some]
    refine ev_neg (by omega) (ev_some ?_)
    rw [dec_dec]
    exact dec_congr ⟨fun h => ⟨fun j h1 h2 => by omega, by omega, by omega⟩, fun h => by omega⟩
  | succ d ih =>
    intro i hi
    refine Ev.step (fun k => rfl) ?_
    simp only [spec_l1Bundle.l0, l6In_eq, Option.bind_some, rd_nat]
    have hw : wrap64 ((i : Int) + 1) = ((i + 1 : Nat) : Int) := by rw [w64 (by omega) (by omega)]; omega
    have hlt : (i : Int) < (l.length : Int) := by omega
    refine ev_pos hlt (ev_pos (by omega) ?_)
    by_cases hr : 1 ≤ l.getD i 0 ∧ l.getD i 0 ≤ 60
    · refine ev_pos (decide_eq_true hr) ?_
      by_cases h0 : (i : Int) > 0
      · have hw1 : wrap64 ((i : Int) - 1) = ((i - 1 : Nat) : Int) := by rw [w64 (by omega) (by omega)]; omega
        rw [hw1, rd_nat]
        refine ev_pos h0 (ev_pos (by omega) (ev_pos (by omega) ?_))
        by_cases hs : l.getD i 0 < l.getD (i - 1) 0
        · refine ev_pos hs (ev_some (dec_false ?_).symm)
          intro h
          have := (h.1 i (Nat.le_refl _) (by omega)).2 (by omega)
          omega
        · refine ev_neg hs ?_
          rw [hw]
          refine ev_eq (dec_congr ?_) (ih (i + 1) (by omega))
          constructor
          · rintro ⟨h, g⟩
            refine ⟨fun j h1 h2 => ?_, g⟩
            by_cases e : j = i
            · subst e; exact ⟨hr, fun _ => by omega⟩
            · exact h j (by omega) h2
          · rintro ⟨h, g⟩
            exact ⟨fun j h1 h2 => h j (by omega) h2, g⟩
      · refine ev_neg h0 ?_
        rw [hw]
        refine ev_eq (dec_congr ?_) (ih (i + 1) (by omega))
        constructor
        · rintro ⟨h, g⟩
          refine ⟨fun j h1 h2 => ?_, g⟩
          by_cases e : j = i
          · subst e; exact ⟨hr, fun _ => by omega⟩
          · exact h j (by omega) h2
        · rintro ⟨h, g⟩
          exact ⟨fun j h1 h2 => h j (by omega) h2, g⟩
    · refine ev_neg (by simpa using hr) (ev_some (dec_false ?_).symm)
      intro h
      exact hr (h.1 i (Nat.le_refl _) (by omega)).1

theorem sb_ev (l : List Int) (hl : l.length ≤ 9223372036854775000) : Ev (fun k => spec_l1Bundle.f k l) (dec (Bnd l)) := by
  simp only [spec_l1Bundle.f]
  refine ev_eq (dec_congr ?_) (sb_l0 l hl l.length 0 (by omega))
  unfold Bnd
  constructor
  · rintro ⟨h, g1, g2⟩
    exact ⟨g1, g2, fun j hj => (h j (Nat.zero_le _) hj).1, fun j hj => (h (j + 1) (Nat.zero_le _) hj).2 (by omega)⟩
  · rintro ⟨g1, g2, h, s⟩
    refine ⟨fun j _ hj => ⟨h j hj, fun h0 => ?_⟩, g1, g2⟩
    have := s (j - 1) (by omega)
    rwa [show j - 1 + 1 = j by omega] at this

theorem ir_l0 (l : List Int) (hl : l.length ≤ 9223372036854775000) : ∀ d i : Nat, i + d = l.length →
    Ev (fun k => impl_isRuler.l0 k l l (l.length : Int) (i : Int)) (dec ((∀ j : Nat, i ≤ j → j < l.length → 1 ≤ l.getD j 0 ∧ l.getD j 0 ≤ 60) ∧ 1 ≤ l.length ∧ l.length ≤ 9)) := by
  intro d
  induction d with
  | zero =>
    intro i hi
    refine Ev.step (fun k => rfl) ?_
    simp only [impl_isRuler.l0]
    refine ev_neg (by omega) ?_
    by_cases h1 : (l.length : Int) ≥ 1
    · refine ev_pos h1 (ev_some ?_)
      rw [dec_dec]
      exact dec_congr ⟨fun h => ⟨fun j h1 h2 => by omega, by omega, by omega⟩, fun h => by omega⟩
    · refine ev_neg h1 (ev_some (dec_false ?_).symm)
      intro h; omega
  | succ d ih =>
    intro i hi
    refine Ev.step (fun k => rfl) ?_
    simp only [impl_isRuler.l0, rd_nat]
    have hw : wrap64 ((i : Int) + 1) = ((i + 1 : Nat) : Int) := by rw [w64 (by omega) (by omega)]; omega
    refine ev_pos (by omega) (ev_pos (by omega) (ev_pos (by omega) ?_))
    by_cases ha : l.getD i 0 < 1
    · refine ev_pos ha (ev_some (dec_false ?_).symm)
      intro h
      have := h.1 i (Nat.le_refl _) (by omega)
      omega
    · refine ev_neg ha ?_
      by_cases hb : l.getD i 0 > 60
      · refine ev_pos hb (ev_some (dec_false ?_).symm)
        intro h
        have := h.1 i (Nat.le_refl _) (by omega)
        omega
      · refine ev_neg hb ?_
        rw [hw]
        refine ev_eq (dec_congr ?_) (ih (i + 1) (by omega))
        constructor
        · rintro ⟨h, g⟩
          refine ⟨fun j h1 h2 => ?_, g⟩
          by_cases e : j = i
          · subst e; omega
          · exact h j (by omega) h2
        · rintro ⟨h, g⟩
          exact ⟨fun j h1 h2 => h j (by omega) h2, g⟩

theorem ir_ev (l : List Int) (hl : l.length ≤ 9223372036854775000) : Ev (fun k => impl_isRuler.f k l) (dec ((∀ j : Nat, j < l.length → 1 ≤ l.getD j 0 ∧ l.getD j 0 ≤ 60) ∧ 1 ≤ l.length ∧ l.length ≤ 9)) := by
  simp only [impl_isRuler.f]
  refine ev_eq (dec_congr ?_) (ir_l0 l hl l.length 0 (by omega))
  exact ⟨fun h => ⟨fun j hj => h.1 j (Nat.zero_le _) hj, h.2⟩, fun h => ⟨fun j _ hj => h.1 j hj, h.2⟩⟩

theorem less_eq (a b : Int) : cmp_Less_int.f a b = some (decide (a < b)) := by
  simp [cmp_Less_int.f, cmp_isNaN_int.f]

theorem is_l0 (l : List Int) (hl : l.length ≤ 9223372036854775000) : ∀ i : Nat, i < l.length ∨ i = 0 →
    Ev (fun k => slices_IsSorted_int_int.l0 k l (i : Int)) (dec (∀ j : Nat, j < i → l.getD j 0 ≤ l.getD (j + 1) 0)) := by
  intro i
  induction i with
  | zero =>
    intro _
    refine Ev.step (fun k => rfl) ?_
    simp only [slices_IsSorted_int_int.l0]
    refine ev_neg (by omega) (ev_some (dec_true ?_).symm)
    intro j hj; omega
  | succ i ih =>
    intro hi
    have hi' : i + 1 < l.length := by omega
    have hw : wrap64 (((i + 1 : Nat) : Int) - 1) = (i : Int) := by rw [w64 (by omega) (by omega)]; omega
    refine Ev.step (fun k => rfl) ?_
    simp only [slices_IsSorted_int_int.l0, hw, rd_nat, less_eq, Option.bind_some]
    refine ev_pos (by omega) (ev_pos (by omega) (ev_pos (by omega) (ev_pos (by omega) (ev_pos (by omega) ?_))))
    by_cases hs : l.getD (i + 1) 0 < l.getD i 0
    · refine ev_pos (decide_eq_true hs) (ev_some (dec_false ?_).symm)
      intro h
      have := h i (by omega)
      omega
    · refine ev_neg (by simpa using hs) ?_
      refine ev_eq (dec_congr ?_) (ih (by omega))
      constructor
      · intro h j hj
        by_cases e : j = i
        · subst e; omega
        · exact h j (by omega)
      · intro h j hj
        exact h j (by omega)

theorem is_ev (l : List Int) (hl : l.length ≤ 9223372036854775000) : Ev (fun k => slices_IsSorted_int_int.f k l) (dec (∀ j : Nat, j + 1 < l.length → l.getD j 0 ≤ l.getD (j + 1) 0)) := by
  simp only [slices_IsSorted_int_int.f]
  by_cases h0 : l.length = 0
  · rw [show wrap64 ((l.length : Int) - 1) = -1 by rw [w64 (by omega) (by omega)]; omega]
    refine Ev.step (fun k => rfl) ?_
    simp only [slices_IsSorted_int_int.l0]
    refine ev_neg (by omega) (ev_some (dec_true ?_).symm)
    intro j hj; omega
  · rw [show wrap64 ((l.length : Int) - 1) = ((l.length - 1 : Nat) : Int) by rw [w64 (by omega) (by omega)]; omega]
    refine ev_eq (dec_congr ?_) (is_l0 l hl (l.length - 1) (by omega))
    exact ⟨fun h j hj => h j (by omega), fun h j hj => h j (by omega)⟩

theorem ii_ev (l : List Int) (hl : l.length ≤ 9223372036854775000) : Ev (fun k => impl_StickIn.f k l) (dec (Bnd l)) := by
  simp only [impl_StickIn.f]
  refine Ev.bind (ir_ev l hl) ?_
  by_cases h : (∀ j : Nat, j < l.length → 1 ≤ l.getD j 0 ∧ l.getD j 0 ≤ 60) ∧ 1 ≤ l.length ∧ l.length ≤ 9
  · refine ev_pos (dec_true h) (Ev.bind (is_ev l hl) (ev_some (dec_congr ?_)))
    exact ⟨fun s => ⟨h.2.1, h.2.2, h.1, s⟩, fun b => b.2.2.2⟩
  · refine ev_neg (by rw [dec_false h]; exact Bool.false_ne_true) (ev_some (dec_false ?_).symm)
    exact fun b => h ⟨b.2.2.1, b.1, b.2.1⟩

theorem ti_l0 (l : List Int) (hl : l.length ≤ 9223372036854775000) : ∀ d i : Nat, ∀ m : List Int, i + d = l.length → m.length = l.length → (∀ j : Nat, j < i → m.getD j 0 = l.getD j 0) →
    Ev (fun k => laws_toIntS.l0 k l m (i : Int)) l := by
  intro d
  induction d with
  | zero =>
    intro i m hi hm hj
    refine Ev.step (fun k => rfl) ?_
    simp only [laws_toIntS.l0]
    refine ev_neg (by omega) (ev_some ?_)
    apply List.ext_getElem hm
    intro j h1 h2
    have := hj j (by omega)
    simpa [List.getD_eq_getElem?_getD, h1, h2] using this
  | succ d ih =>
    intro i m hi hm hj
    refine Ev.step (fun k => rfl) ?_
    have hw : wrap64 ((i : Int) + 1) = ((i + 1 : Nat) : Int) := by rw [w64 (by omega) (by omega)]; omega
    simp only [laws_toIntS.l0, hw, rd_nat, Int.toNat_natCast]
    refine ev_pos (by omega) (ev_pos (by omega) (ev_pos (by omega) ?_))
    refine ih (i + 1) _ (by omega) (by simpa using hm) ?_
    intro j hlt
    by_cases e : j = i
    · subst e
      simp [List.getD_eq_getElem?_getD, show j < m.length by omega]
    · have := hj j (by omega)
      simpa [List.getD_eq_getElem?_getD, List.getElem?_set, show i ≠ j by omega] using this

theorem ti_ev (l : List Int) (hl : l.length ≤ 35184372088832) : Ev (fun k => laws_toIntS.f k l) l := by
  simp only [laws_toIntS.f]
  refine ev_pos (by omega) (ev_pos (by omega) ?_)
  exact ti_l0 l (by omega) l.length 0 _ (by omega) (by simp) (fun j hj => by omega)

theorem ei_l0 (l m : List Int) (hl : l.length ≤ 9223372036854775000) (hm : l.length = m.length) : ∀ d i : Nat, i + d = l.length → (∀ j : Nat, j < i → l.getD j 0 = m.getD j 0) →
    Ev (fun k => laws_eqIntS.l0 k l m (i : Int)) (decide (l = m)) := by
  intro d
  induction d with
  | zero =>
    intro i hi hj
    refine Ev.step (fun k => rfl) ?_
    simp only [laws_eqIntS.l0]
    refine ev_neg (by omega) (ev_some (decide_eq_true ?_).symm)
    apply List.ext_getElem hm
    intro j h1 h2
    have := hj j (by omega)
    simpa [List.getD_eq_getElem?_getD, h1, h2] using this
  | succ d ih =>
    intro i hi hj
    refine Ev.step (fun k => rfl) ?_
    have hw : wrap64 ((i : Int) + 1) = ((i + 1 : Nat) : Int) := by rw [w64 (by omega) (by omega)]; omega
    simp only [laws_eqIntS.l0, hw, rd_nat]
    refine ev_pos (by omega) (ev_pos (by omega) (ev_pos (by omega) ?_))
    by_cases e : l.getD i 0 = m.getD i 0
    · refine ev_pos e (ih (i + 1) (by omega) ?_)
      intro j h
      by_cases x : j = i
      · rw [x]; exact e
      · exact hj j (by omega)
    · refine ev_neg e (ev_some (decide_eq_false ?_).symm)
      intro x; exact e (by rw [x])

theorem ei_ev (l m : List Int) (hl : l.length ≤ 9223372036854775000) : Ev (fun k => laws_eqIntS.f k l m) (decide (l = m)) := by
  simp only [laws_eqIntS.f]
  by_cases h : (l.length : Int) = (m.length : Int)
  · exact ev_pos h (ei_l0 l m hl (by omega) l.length 0 (by omega) (fun j hj => by omega))
  · refine ev_neg h (ev_some (decide_eq_false ?_).symm)
    intro x; exact h (by rw [x])

def mkl (a : Int) (n : Nat) : List Int := (List.range n).map fun i : Nat => a + (i : Int)
theorem mkl_length (a : Int) (n : Nat) : (mkl a n).length = n := by simp [mkl]
theorem mkl_getD (a : Int) (n i : Nat) (h : i < n) : (mkl a n).getD i 0 = a + i := by
  simp [mkl, List.getD_eq_getElem?_getD, h]
theorem mark_l0 (n : Nat) (hn : n ≤ 10000000) : ∀ d i : Nat, ∀ m : List Int, i + d = n → m.length = n → (∀ j : Nat, j < i → m.getD j 0 = 1 + j) →
    Ev (fun k => laws_markIntS.l0 k m (1 + (i : Int)) (i : Int)) (1 + (n : Int), mkl 1 n) := by
  intro d
  induction d with
  | zero =>
    intro i m hi hm hj
    refine Ev.step (fun k => rfl) ?_
    simp only [laws_markIntS.l0]
    refine ev_neg (by omega) (ev_some ?_)
    rw [show i = n by omega]
    congr 1
    apply List.ext_getElem (by rw [hm, mkl_length])
    intro j h1 h2
    have a := hj j (by omega)
    have b := mkl_getD 1 n j (by omega)
    rw [List.getD_eq_getElem?_getD, List.getElem?_eq_getElem h1] at a
    rw [List.getD_eq_getElem?_getD, List.getElem?_eq_getElem h2] at b
    simp at a b
    rw [a, b]
  | succ d ih =>
    intro i m hi hm hj
    refine Ev.step (fun k => rfl) ?_
    have hw : wrap64 ((i : Int) + 1) = ((i + 1 : Nat) : Int) := by rw [w64 (by omega) (by omega)]; omega
    have hw2 : wrap64 (1 + (i : Int) + 1) = 1 + ((i + 1 : Nat) : Int) := by rw [w64 (by omega) (by omega)]; omega
    simp only [laws_markIntS.l0, hw, hw2, Int.toNat_natCast]
    refine ev_pos (by omega) (ev_pos (by omega) ?_)
    refine ih (i + 1) _ (by omega) (by simpa using hm) ?_
    intro j hlt
    by_cases e : j = i
    · subst e
      simp [List.getD_eq_getElem?_getD, show j < m.length by omega]
    · have := hj j (by omega)
      simpa [List.getD_eq_getElem?_getD, List.getElem?_set, show i ≠ j by omega] using this
theorem mark_ev (l : List Int) (hn : l.length ≤ 10000000) : Ev (fun k => laws_markIntS.f k l 1) (1 + (l.length : Int), mkl 1 l.length) := by
  simp only [laws_markIntS.f]
  exact mark_l0 l.length hn l.length 0 l (by omega) rfl (fun j hj => by omega)
theorem held_l0 (n : Nat) (hn : n ≤ 10000000) : ∀ d i : Nat, i + d = n → Ev (fun k => laws_heldIntS.l0 k (mkl 1 n) (1 + (i : Int)) (i : Int)) (1 + (n : Int)) := by
  intro d
  induction d with
  | zero =>
    intro i hi
    refine Ev.step (fun k => rfl) ?_
    simp only [laws_heldIntS.l0, mkl_length]
    refine ev_neg (by omega) (ev_some ?_)
    rw [show i = n by omega]
  | succ d ih =>
    intro i hi
    refine Ev.step (fun k => rfl) ?_
    have hw : wrap64 ((i : Int) + 1) = ((i + 1 : Nat) : Int) := by rw [w64 (by omega) (by omega)]; omega
    have hw2 : wrap64 (1 + (i : Int) + 1) = 1 + ((i + 1 : Nat) : Int) := by rw [w64 (by omega) (by omega)]; omega
    simp only [laws_heldIntS.l0, hw, hw2, mkl_length, rd_nat, mkl_getD 1 n i (by omega)]
    exact ev_pos (by omega) (ev_pos (by omega) (ev_pos (by simp) (ih (i + 1) (by omega))))
theorem held_ev (n : Nat) (hn : n ≤ 10000000) : Ev (fun k => laws_heldIntS.f k (mkl 1 n) 1) (1 + (n : Int)) := by
  simp only [laws_heldIntS.f]
  exact held_l0 n hn n 0 (by omega)

def Rul (l : List Int) : Prop := (∀ j : Nat, j < l.length → 1 ≤ l.getD j 0 ∧ l.getD j 0 ≤ 60) ∧ 1 ≤ l.length ∧ l.length ≤ 9
theorem rul_mem {l : List Int} : Rul l ↔ (∀ x ∈ l, 1 ≤ x ∧ x ≤ 60) ∧ 1 ≤ l.length ∧ l.length ≤ 9 := by
  refine ⟨fun h => ⟨fun x hx => ?_, h.2⟩, fun h => ⟨fun j hj => ?_, h.2⟩⟩
  · obtain ⟨j, hj, rfl⟩ := List.getElem_of_mem hx
    have := h.1 j hj
    rwa [List.getD_eq_getElem?_getD, List.getElem?_eq_getElem hj] at this
  · rw [List.getD_eq_getElem?_getD, List.getElem?_eq_getElem hj]
    exact h.1 _ (List.getElem_mem hj)
theorem rul_perm {l m : List Int} (p : l.Perm m) : Rul l ↔ Rul m := by
  rw [rul_mem, rul_mem, p.length_eq]
  exact ⟨fun h => ⟨fun x hx => h.1 x (p.mem_iff.mpr hx), h.2⟩, fun h => ⟨fun x hx => h.1 x (p.mem_iff.mp hx), h.2⟩⟩
theorem pw_get {l : List Int} (h : l.Pairwise (· ≤ ·)) {i j : Nat} (hij : i ≤ j) (hj : j < l.length) : l.getD i 0 ≤ l.getD j 0 := by
  rw [List.getD_eq_getElem?_getD, List.getD_eq_getElem?_getD, List.getElem?_eq_getElem hj, List.getElem?_eq_getElem (by omega : i < l.length)]
  rcases Nat.lt_or_ge i j with c | c
  · exact List.pairwise_iff_getElem.mp h i j _ _ c
  · have : i = j := by omega
    subst this
    exact Int.le_refl _
theorem pw_of {l : List Int} (h : ∀ j : Nat, j + 1 < l.length → l.getD j 0 ≤ l.getD (j + 1) 0) : l.Pairwise (· ≤ ·) := by
  have H : ∀ d i : Nat, i + d < l.length → l.getD i 0 ≤ l.getD (i + d) 0 := by
    intro d
    induction d with
    | zero => intro i _; exact Int.le_refl _
    | succ d ih => intro i hi; exact Int.le_trans (ih i (by omega)) (h (i + d) (by omega))
  rw [List.pairwise_iff_getElem]
  intro i j hi hj hij
  have := H (j - i) i (by omega)
  rw [show i + (j - i) = j by omega] at this
  rwa [List.getD_eq_getElem?_getD, List.getD_eq_getElem?_getD, List.getElem?_eq_getElem hi, List.getElem?_eq_getElem hj] at this
theorem bnd_iff {l : List Int} : Bnd l ↔ Rul l ∧ l.Pairwise (· ≤ ·) :=
  ⟨fun h => ⟨⟨h.2.2.1, h.1, h.2.1⟩, pw_of h.2.2.2⟩, fun h => ⟨h.1.2.1, h.1.2.2, h.1.1, fun j hj => pw_get h.2 (by omega) hj⟩⟩

noncomputable def dropr (l : List Int) (a : Int) : List Int × Bool := if dec (Bnd l ∧ 0 ≤ a ∧ a < l.length ∧ l.length ≠ 1) = true then (impl_StickDropD.res l a.toNat, true) else ([], false)
theorem dropr_no {l : List Int} {a : Int} (h : ¬ (Bnd l ∧ 0 ≤ a ∧ a < l.length ∧ l.length ≠ 1)) : dropr l a = ([], false) := by
  unfold dropr; rw [if_neg (by rw [dec_false h]; simp)]
theorem dropr_yes {l : List Int} {a : Int} (h : Bnd l ∧ 0 ≤ a ∧ a < l.length ∧ l.length ≠ 1) : dropr l a = (impl_StickDropD.res l a.toNat, true) := by
  unfold dropr; rw [if_pos (dec_true h)]
theorem idrop_ev (l : List Int) (a : Int) (hl : l.length ≤ 9223372036854775000) : Ev (fun k => impl_StickDrop.f k l a) (dropr l a) := by
  simp only [impl_StickDrop.f]
  refine Ev.bind (ii_ev l hl) ?_
  by_cases h : Bnd l
  · have h2 := h.2.1
    refine ev_pos (dec_true h) ?_
    by_cases c1 : a < 0
    · rw [dropr_no (fun c => by omega)]; exact ev_pos c1 (Ev.now _)
    · refine ev_neg c1 ?_
      by_cases c2 : a ≥ (l.length : Int)
      · rw [dropr_no (fun c => by omega)]; exact ev_pos c2 (Ev.now _)
      · refine ev_neg c2 ?_
        by_cases c3 : (l.length : Int) = 1
        · rw [dropr_no (fun c => by omega)]; exact ev_pos c3 (Ev.now _)
        · rw [dropr_yes ⟨h, by omega, by omega, by omega⟩]
          exact ev_neg c3 (ev_pos (by omega) (Ev.now _))
  · rw [dropr_no (fun c => h c.1)]
    exact ev_neg (by rw [dec_false h]; simp) (Ev.now _)
theorem drop_sub (l : List Int) (i : Nat) (hi : i < l.length) : List.Sublist (impl_StickDropD.res l i) l ∧ (impl_StickDropD.res l i).length + 1 = l.length := by
  unfold impl_StickDropD.res
  refine ⟨?_, by simp; omega⟩
  have := List.Sublist.append (List.Sublist.refl (l.take i)) (List.drop_sublist_drop_left l (show i ≤ i + 1 by omega))
  rwa [List.take_append_drop] at this
theorem bnd_res {l : List Int} (h : Bnd l) (i : Nat) (hi : i < l.length) (h1 : l.length ≠ 1) : Bnd (impl_StickDropD.res l i) := by
  obtain ⟨hs, hl⟩ := drop_sub l i hi
  rw [bnd_iff, rul_mem] at h ⊢
  have h2 := h.1.2
  exact ⟨⟨fun x hx => h.1.1 x (hs.subset hx), by omega, by omega⟩, h.2.sublist hs⟩

theorem done_ev (m : List Int) (hm : m.length ≤ 100000) : Ev (fun k => spec_l1Done.f k m) (if dec (Bnd m) = true then (m, true) else ([], false)) := by
  simp only [spec_l1Done.f]
  refine Ev.bind (sb_ev _ (by omega)) ?_
  by_cases h : Bnd m
  · exact ev_eq (if_pos (dec_true h)).symm (ev_pos (dec_true h) (Ev.now _))
  · have e : ¬ dec (Bnd m) = true := by rw [dec_false h]; simp
    exact ev_eq (if_neg e).symm (ev_neg e (Ev.now _))
theorem sdrop_ev (l : List Int) (a : Int) (hl : l.length ≤ 9223372036854775000) : Ev (fun k => spec_StickDrop.f k l a) (dropr l a) := by
  simp only [spec_StickDrop.f, Option.bind_some, List.nil_append, List.length_nil, Nat.zero_add]
  refine Ev.bind (sb_ev l hl) ?_
  by_cases h : Bnd l
  · have h1 := h.1
    have h2 := h.2.1
    refine ev_pos (dec_true h) ?_
    simp only [l6In_eq, Option.bind_some]
    rw [w64 (n := (l.length : Int) - 1) (by omega) (by omega)]
    by_cases c : 0 ≤ a ∧ a ≤ (l.length : Int) - 1
    · refine ev_pos (by simp; omega) ?_
      have hw : wrap64 (a + 1) = a + 1 := w64 (by omega) (by omega)
      have ht : (a + 1).toNat = a.toNat + 1 := by omega
      rw [hw, ht]
      obtain ⟨hs, hl2⟩ := drop_sub l a.toNat (by omega)
      unfold impl_StickDropD.res at hs hl2
      refine ev_pos c.1 (ev_pos (by omega) (ev_pos (by simp; omega) (ev_pos (by omega) (ev_pos (by omega) (ev_pos (by simp; omega) (Ev.bind (done_ev _ (by omega)) ?_))))))
      by_cases c1 : l.length = 1
      · rw [dropr_no (fun q => by omega)]
        have e : ¬ dec (Bnd (l.take a.toNat ++ l.drop (a.toNat + 1))) = true := by
          rw [dec_false (fun q : Bnd _ => by have := q.1; omega)]; simp
        rw [if_neg e]; exact Ev.now _
      · rw [dropr_yes ⟨h, by omega, by omega, c1⟩]
        have e : dec (Bnd (l.take a.toNat ++ l.drop (a.toNat + 1))) = true := dec_true (bnd_res h a.toNat (by omega) c1)
        rw [if_pos e]; exact Ev.now _
    · rw [dropr_no (fun q => by omega)]
      exact ev_neg (by simp; omega) (Ev.now _)
  · rw [dropr_no (fun c => h c.1)]
    exact ev_neg (by rw [dec_false h]; simp) (Ev.now _)

theorem drop_len (l : List Int) (a : Int) : (dropr l a).1.length ≤ 1000000 := by
  by_cases h : Bnd l ∧ 0 ≤ a ∧ a < l.length ∧ l.length ≠ 1
  · rw [dropr_yes h]
    have h1 := h.1.2.1
    have h2 := (drop_sub l a.toNat (by omega)).2
    dsimp only
    omega
  · rw [dropr_no h]
    simp
theorem both (l : List Int) (x : Int) (hl : l.length ≤ 9223372036854775000) : ∃ r, Ev (fun k => spec_StickDrop.f k l x) r ∧ Ev (fun k => impl_StickDrop.f k l x) r ∧ r.1.length ≤ 1000000 := ⟨_, sdrop_ev l x hl, idrop_ev l x hl, drop_len l x⟩
theorem FnExactStickDrop : laws_FnExactStickDrop.Pure := by
  intro l x h1 h2 hw hx
  apply Ev.rounds
  simp only [laws_FnExactStickDrop.f]
  by_cases c : (l.length : Int) > 1048576
  · exact ev_pos c (Ev.now _)
  · obtain ⟨r, es, ei, hr⟩ := both l x (by omega)
    have tl := ti_ev l (by omega)
    have ee := ei_ev r.1 r.1 (by omega)
    refine ev_neg c (Ev.bind tl (Ev.bind es (Ev.bind tl (Ev.bind ei (Ev.bind ee (ev_pos (by simp) (Ev.step (fun k => rfl) ?_)))))))
    simp only [laws_FnExactStickDrop.j0]
    refine ev_neg (by simp) (Ev.bind tl (Ev.bind (ei_ev l l (by omega)) (ev_pos (by simp) (Ev.bind (mark_ev l (by omega)) (ev_neg (by dsimp only; omega) (Ev.bind ee (ev_pos (by simp) (Ev.step (fun k => rfl) ?_))))))))
    simp only [laws_FnExactStickDrop.j1]
    refine ev_neg (by simp) (Ev.bind (mark_ev r.1 (by omega)) (Ev.bind (held_ev _ (by omega)) (ev_neg (by omega) (ev_pos rfl (Ev.bind tl (Ev.bind ei (Ev.bind ee (ev_pos (by simp) (Ev.step (fun k => rfl) ?_)))))))))
    simp only [laws_FnExactStickDrop.j2]
    exact ev_neg (by simp) (Ev.bind (held_ev _ (by omega)) (ev_neg (by omega) (ev_pos rfl (Ev.now _))))

end Go.Proofs.Ytlnjiefadnjbhaa.Pure
