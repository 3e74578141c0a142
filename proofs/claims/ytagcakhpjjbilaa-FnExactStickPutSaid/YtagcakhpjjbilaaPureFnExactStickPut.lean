/- The pure statement of FnExactStickPut: for every input the law answers true; no condition. -/
import Derived.Test.YtagcakhpjjbilaaQFnExactStickPutx5
namespace Go.Proofs.Ytagcakhpjjbilaa.Pure
open Go.RowKit Go.Proofs.Ytagcakhpjjbilaa.QFnExactStickPut Go.Proofs.YtagcakhpjjbilaaW.PrintWords Go.Proofs.YtagcakhpjjbilaaW.PrintLast Go.Proofs.YtagcakhpjjbilaaW.PrintMore

theorem ev_pos {α : Type} {c : Prop} [Decidable c] {A B : Nat → Option α} {r : α} (h : c) (e : Ev A r) : Ev (fun k => if c then A k else B k) r := by
  simpa only [if_pos h] using e
theorem ev_neg {α : Type} {c : Prop} [Decidable c] {A B : Nat → Option α} {r : α} (h : ¬ c) (e : Ev B r) : Ev (fun k => if c then A k else B k) r := by
  simpa only [if_neg h] using e
theorem ev_eq {α : Type} {A : Nat → Option α} {r r' : α} (h : r = r') (e : Ev A r) : Ev A r' := h ▸ e
theorem ev_some {α : Type} {r r' : α} (h : r = r') : Ev (fun _ => some r) r' := h ▸ Ev.now r
theorem w64 {n : Int} (h0 : -9223372036854775808 ≤ n) (h1 : n ≤ 9223372036854775807) : wrap64 n = n := by unfold wrap64; omega
theorem rd_nat (l : List Int) (i : Nat) : rd l (i : Int) = l.getD i 0 := by simp [rd]
noncomputable def dec (P : Prop) : Bool := @decide P (Classical.propDecidable P)
theorem dec_true {P : Prop} (h : P) : dec P = true := @decide_eq_true P (Classical.propDecidable P) h
theorem dec_false {P : Prop} (h : ¬ P) : dec P = false := @decide_eq_false P (Classical.propDecidable P) h
theorem dec_iff {P : Prop} : dec P = true ↔ P := ⟨fun h => @of_decide_eq_true P (Classical.propDecidable P) h, dec_true⟩
theorem dec_congr {P Q : Prop} (h : P ↔ Q) : dec P = dec Q := by
  by_cases p : P
  · rw [dec_true p, dec_true (h.mp p)]
  · rw [dec_false p, dec_false (fun q => p (h.mpr q))]
theorem dec_dec {P : Prop} [Decidable P] : decide P = dec P := by
  by_cases p : P
  · rw [dec_true p, decide_eq_true p]
  · rw [dec_false p, decide_eq_false p]

def Bnd (l : List Int) : Prop := 1 ≤ l.length ∧ l.length ≤ 9 ∧ (∀ j : Nat, j < l.length → 1 ≤ l.getD j 0 ∧ l.getD j 0 ≤ 60) ∧ (∀ j : Nat, j + 1 < l.length → l.getD j 0 ≤ l.getD (j + 1) 0)

theorem l6In_eq (a b c : Int) : spec_l6In.f a b c = some (decide (b ≤ a ∧ a ≤ c)) := by
  unfold spec_l6In.f
  by_cases h : a ≥ b
  · rw [if_pos h]; congr 1; by_cases g : a ≤ c
    · rw [decide_eq_true g, decide_eq_true ⟨h, g⟩]
    · rw [decide_eq_false g, decide_eq_false (fun x => g x.2)]
  · rw [if_neg h, decide_eq_false (fun x => h x.1)]

theorem sb_l0 (l : List Int) (hl : l.length ≤ 9223372036854775000) : ∀ d i : Nat, i + d = l.length →
    Ev (fun k => spec_l1Bundle.l0 k l (i : Int)) (dec ((∀ j : Nat, i ≤ j → j < l.length → (1 ≤ l.getD j 0 ∧ l.getD j 0 ≤ 60) ∧ (0 < j → l.getD (j - 1) 0 ≤ l.getD j 0)) ∧ 1 ≤ l.length ∧ l.length ≤ 9)) := by
  intro d
  induction d with
  | zero =>
    intro i hi
    refine Ev.step (fun k => rfl) ?_
    simp only [spec_l1Bundle.l0, l6In_eq, Option.bind_some]
    refine ev_neg (by omega) (ev_some ?_)
    rw [dec_dec]
    exact dec_congr ⟨fun h => ⟨fun j h1 h2 => by omega, by omega, by omega⟩, fun h => by omega⟩
  | succ d ih =>
    intro i hi
    refine Ev.step (fun k => rfl) ?_
    simp only [spec_l1Bundle.l0, l6In_eq, Option.bind_some, rd_nat]
    have hw : wrap64 ((i : Int) + 1) = ((i + 1 : Nat) : Int) := by rw [w64 (by omega) (by omega)]; omega
    have hlt : (i : Int) < (l.length : Int) := by omega
    refine ev_pos hlt (ev_pos (by omega) ?_)
    by_cases hr : 1 ≤ l.getD i 0 ∧ l.getD i 0 ≤ 60
    · refine ev_pos (decide_eq_true hr) ?_
      by_cases h0 : (i : Int) > 0
      · have hw1 : wrap64 ((i : Int) - 1) = ((i - 1 : Nat) : Int) := by rw [w64 (by omega) (by omega)]; omega
        rw [hw1, rd_nat]
        refine ev_pos h0 (ev_pos (by omega) (ev_pos (by omega) ?_))
        by_cases hs : l.getD i 0 < l.getD (i - 1) 0
        · refine ev_pos hs (ev_some (dec_false ?_).symm)
          intro h
          have := (h.1 i (Nat.le_refl _) (by omega)).2 (by omega)
          omega
        · refine ev_neg hs ?_
          rw [hw]
          refine ev_eq (dec_congr ?_) (ih (i + 1) (by omega))
          constructor
          · rintro ⟨h, g⟩
            refine ⟨fun j h1 h2 => ?_, g⟩
            by_cases e : j = i
            · subst e; exact ⟨hr, fun _ => by omega⟩
            · exact h j (by omega) h2
          · rintro ⟨h, g⟩
            exact ⟨fun j h1 h2 => h j (by omega) h2, g⟩
      · refine ev_neg h0 ?_
        rw [hw]
        refine ev_eq (dec_congr ?_) (ih (i + 1) (by omega))
        constructor
        · rintro ⟨h, g⟩
          refine ⟨fun j h1 h2 => ?_, g⟩
          by_cases e : j = i
          · subst e; exact ⟨hr, fun _ => by omega⟩
          · exact h j (by omega) h2
        · rintro ⟨h, g⟩
          exact ⟨fun j h1 h2 => h j (by omega) h2, g⟩
    · refine ev_neg (by simpa using hr) (ev_some (dec_false ?_).symm)
      intro h
      exact hr (h.1 i (Nat.le_refl _) (by omega)).1

theorem sb_ev (l : List Int) (hl : l.length ≤ 9223372036854775000) : Ev (fun k => spec_l1Bundle.f k l) (dec (Bnd l)) := by
  simp only [spec_l1Bundle.f]
  refine ev_eq (dec_congr ?_) (sb_l0 l hl l.length 0 (by omega))
  unfold Bnd
  constructor
  · rintro ⟨h, g1, g2⟩
    exact ⟨g1, g2, fun j hj => (h j (Nat.zero_le _) hj).1, fun j hj => (h (j + 1) (Nat.zero_le _) hj).2 (by omega)⟩
  · rintro ⟨g1, g2, h, s⟩
    refine ⟨fun j _ hj => ⟨h j hj, fun h0 => ?_⟩, g1, g2⟩
    have := s (j - 1) (by omega)
    rwa [show j - 1 + 1 = j by omega] at this

theorem ir_l0 (l : List Int) (hl : l.length ≤ 9223372036854775000) : ∀ d i : Nat, i + d = l.length →
    Ev (fun k => impl_isRuler.l0 k l l (l.length : Int) (i : Int)) (dec ((∀ j : Nat, i ≤ j → j < l.length → 1 ≤ l.getD j 0 ∧ l.getD j 0 ≤ 60) ∧ 1 ≤ l.length ∧ l.length ≤ 9)) := by
  intro d
  induction d with
  | zero =>
    intro i hi
    refine Ev.step (fun k => rfl) ?_
    simp only [impl_isRuler.l0]
    refine ev_neg (by omega) ?_
    by_cases h1 : (l.length : Int) ≥ 1
    · refine ev_pos h1 (ev_some ?_)
      rw [dec_dec]
      exact dec_congr ⟨fun h => ⟨fun j h1 h2 => by omega, by omega, by omega⟩, fun h => by omega⟩
    · refine ev_neg h1 (ev_some (dec_false ?_).symm)
      intro h; omega
  | succ d ih =>
    intro i hi
    refine Ev.step (fun k => rfl) ?_
    simp only [impl_isRuler.l0, rd_nat]
    have hw : wrap64 ((i : Int) + 1) = ((i + 1 : Nat) : Int) := by rw [w64 (by omega) (by omega)]; omega
    refine ev_pos (by omega) (ev_pos (by omega) (ev_pos (by omega) ?_))
    by_cases ha : l.getD i 0 < 1
    · refine ev_pos ha (ev_some (dec_false ?_).symm)
      intro h
      have := h.1 i (Nat.le_refl _) (by omega)
      omega
    · refine ev_neg ha ?_
      by_cases hb : l.getD i 0 > 60
      · refine ev_pos hb (ev_some (dec_false ?_).symm)
        intro h
        have := h.1 i (Nat.le_refl _) (by omega)
        omega
      · refine ev_neg hb ?_
        rw [hw]
        refine ev_eq (dec_congr ?_) (ih (i + 1) (by omega))
        constructor
        · rintro ⟨h, g⟩
          refine ⟨fun j h1 h2 => ?_, g⟩
          by_cases e : j = i
          · subst e; omega
          · exact h j (by omega) h2
        · rintro ⟨h, g⟩
          exact ⟨fun j h1 h2 => h j (by omega) h2, g⟩

theorem ir_ev (l : List Int) (hl : l.length ≤ 9223372036854775000) : Ev (fun k => impl_isRuler.f k l) (dec ((∀ j : Nat, j < l.length → 1 ≤ l.getD j 0 ∧ l.getD j 0 ≤ 60) ∧ 1 ≤ l.length ∧ l.length ≤ 9)) := by
  simp only [impl_isRuler.f]
  refine ev_eq (dec_congr ?_) (ir_l0 l hl l.length 0 (by omega))
  exact ⟨fun h => ⟨fun j hj => h.1 j (Nat.zero_le _) hj, h.2⟩, fun h => ⟨fun j _ hj => h.1 j hj, h.2⟩⟩

theorem less_eq (a b : Int) : cmp_Less_int.f a b = some (decide (a < b)) := by
  simp [cmp_Less_int.f, cmp_isNaN_int.f]

theorem is_l0 (l : List Int) (hl : l.length ≤ 9223372036854775000) : ∀ i : Nat, i < l.length ∨ i = 0 →
    Ev (fun k => slices_IsSorted_int_int.l0 k l (i : Int)) (dec (∀ j : Nat, j < i → l.getD j 0 ≤ l.getD (j + 1) 0)) := by
  intro i
  induction i with
  | zero =>
    intro _
    refine Ev.step (fun k => rfl) ?_
    simp only [slices_IsSorted_int_int.l0]
    refine ev_neg (by omega) (ev_some (dec_true ?_).symm)
    intro j hj; omega
  | succ i ih =>
    intro hi
    have hi' : i + 1 < l.length := by omega
    have hw : wrap64 (((i + 1 : Nat) : Int) - 1) = (i : Int) := by rw [w64 (by omega) (by omega)]; omega
    refine Ev.step (fun k => rfl) ?_
    simp only [slices_IsSorted_int_int.l0, hw, rd_nat, less_eq, Option.bind_some]
    refine ev_pos (by omega) (ev_pos (by omega) (ev_pos (by omega) (ev_pos (by omega) (ev_pos (by omega) ?_))))
    by_cases hs : l.getD (i + 1) 0 < l.getD i 0
    · refine ev_pos (decide_eq_true hs) (ev_some (dec_false ?_).symm)
      intro h
      have := h i (by omega)
      omega
    · refine ev_neg (by simpa using hs) ?_
      refine ev_eq (dec_congr ?_) (ih (by omega))
      constructor
      · intro h j hj
        by_cases e : j = i
        · subst e; omega
        · exact h j (by omega)
      · intro h j hj
        exact h j (by omega)

theorem is_ev (l : List Int) (hl : l.length ≤ 9223372036854775000) : Ev (fun k => slices_IsSorted_int_int.f k l) (dec (∀ j : Nat, j + 1 < l.length → l.getD j 0 ≤ l.getD (j + 1) 0)) := by
  simp only [slices_IsSorted_int_int.f]
  by_cases h0 : l.length = 0
  · rw [show wrap64 ((l.length : Int) - 1) = -1 by rw [w64 (by omega) (by omega)]; omega]
    refine Ev.step (fun k => rfl) ?_
    simp only [slices_IsSorted_int_int.l0]
    refine ev_neg (by omega) (ev_some (dec_true ?_).symm)
    intro j hj; omega
  · rw [show wrap64 ((l.length : Int) - 1) = ((l.length - 1 : Nat) : Int) by rw [w64 (by omega) (by omega)]; omega]
    refine ev_eq (dec_congr ?_) (is_l0 l hl (l.length - 1) (by omega))
    exact ⟨fun h j hj => h j (by omega), fun h j hj => h j (by omega)⟩

theorem ii_ev (l : List Int) (hl : l.length ≤ 9223372036854775000) : Ev (fun k => impl_StickIn.f k l) (dec (Bnd l)) := by
  simp only [impl_StickIn.f]
  refine Ev.bind (ir_ev l hl) ?_
  by_cases h : (∀ j : Nat, j < l.length → 1 ≤ l.getD j 0 ∧ l.getD j 0 ≤ 60) ∧ 1 ≤ l.length ∧ l.length ≤ 9
  · refine ev_pos (dec_true h) (Ev.bind (is_ev l hl) (ev_some (dec_congr ?_)))
    exact ⟨fun s => ⟨h.2.1, h.2.2, h.1, s⟩, fun b => b.2.2.2⟩
  · refine ev_neg (by rw [dec_false h]; exact Bool.false_ne_true) (ev_some (dec_false ?_).symm)
    exact fun b => h ⟨b.2.2.1, b.1, b.2.1⟩

theorem ti_l0 (l : List Int) (hl : l.length ≤ 9223372036854775000) : ∀ d i : Nat, ∀ m : List Int, i + d = l.length → m.length = l.length → (∀ j : Nat, j < i → m.getD j 0 = l.getD j 0) →
    Ev (fun k => laws_toIntS.l0 k l m (i : Int)) l := by
  intro d
  induction d with
  | zero =>
    intro i m hi hm hj
    refine Ev.step (fun k => rfl) ?_
    simp only [laws_toIntS.l0]
    refine ev_neg (by omega) (ev_some ?_)
    apply List.ext_getElem hm
    intro j h1 h2
    have := hj j (by omega)
    simpa [List.getD_eq_getElem?_getD, h1, h2] using this
  | succ d ih =>
    intro i m hi hm hj
    refine Ev.step (fun k => rfl) ?_
    have hw : wrap64 ((i : Int) + 1) = ((i + 1 : Nat) : Int) := by rw [w64 (by omega) (by omega)]; omega
    simp only [laws_toIntS.l0, hw, rd_nat, Int.toNat_natCast]
    refine ev_pos (by omega) (ev_pos (by omega) (ev_pos (by omega) ?_))
    refine ih (i + 1) _ (by omega) (by simpa using hm) ?_
    intro j hlt
    by_cases e : j = i
    · subst e
      simp [List.getD_eq_getElem?_getD, show j < m.length by omega]
    · have := hj j (by omega)
      simpa [List.getD_eq_getElem?_getD, List.getElem?_set, show i ≠ j by omega] using this

theorem ti_ev (l : List Int) (hl : l.length ≤ 35184372088832) : Ev (fun k => laws_toIntS.f k l) l := by
  simp only [laws_toIntS.f]
  refine ev_pos (by omega) (ev_pos (by omega) ?_)
  exact ti_l0 l (by omega) l.length 0 _ (by omega) (by simp) (fun j hj => by omega)

theorem ei_l0 (l m : List Int) (hl : l.length ≤ 9223372036854775000) (hm : l.length = m.length) : ∀ d i : Nat, i + d = l.length → (∀ j : Nat, j < i → l.getD j 0 = m.getD j 0) →
    Ev (fun k => laws_eqIntS.l0 k l m (i : Int)) (decide (l = m)) := by
  intro d
  induction d with
  | zero =>
    intro i hi hj
    refine Ev.step (fun k => rfl) ?_
    simp only [laws_eqIntS.l0]
    refine ev_neg (by omega) (ev_some (decide_eq_true ?_).symm)
    apply List.ext_getElem hm
    intro j h1 h2
    have := hj j (by omega)
    simpa [List.getD_eq_getElem?_getD, h1, h2] using this
  | succ d ih =>
    intro i hi hj
    refine Ev.step (fun k => rfl) ?_
    have hw : wrap64 ((i : Int) + 1) = ((i + 1 : Nat) : Int) := by rw [w64 (by omega) (by omega)]; omega
    simp only [laws_eqIntS.l0, hw, rd_nat]
    refine ev_pos (by omega) (ev_pos (by omega) (ev_pos (by omega) ?_))
    by_cases e : l.getD i 0 = m.getD i 0
    · refine ev_pos e (ih (i + 1) (by omega) ?_)
      intro j h
      by_cases x : j = i
      · rw [x]; exact e
      · exact hj j (by omega)
    · refine ev_neg e (ev_some (decide_eq_false ?_).symm)
      intro x; exact e (by rw [x])

theorem ei_ev (l m : List Int) (hl : l.length ≤ 9223372036854775000) : Ev (fun k => laws_eqIntS.f k l m) (decide (l = m)) := by
  simp only [laws_eqIntS.f]
  by_cases h : (l.length : Int) = (m.length : Int)
  · exact ev_pos h (ei_l0 l m hl (by omega) l.length 0 (by omega) (fun j hj => by omega))
  · refine ev_neg h (ev_some (decide_eq_false ?_).symm)
    intro x; exact h (by rw [x])

def mkl (a : Int) (n : Nat) : List Int := (List.range n).map fun i : Nat => a + (i : Int)
theorem mkl_length (a : Int) (n : Nat) : (mkl a n).length = n := by simp [mkl]
theorem mkl_getD (a : Int) (n i : Nat) (h : i < n) : (mkl a n).getD i 0 = a + i := by
  simp [mkl, List.getD_eq_getElem?_getD, h]
theorem mark_l0 (n : Nat) (hn : n ≤ 10000000) : ∀ d i : Nat, ∀ m : List Int, i + d = n → m.length = n → (∀ j : Nat, j < i → m.getD j 0 = 1 + j) →
    Ev (fun k => laws_markIntS.l0 k m (1 + (i : Int)) (i : Int)) (1 + (n : Int), mkl 1 n) := by
  intro d
  induction d with
  | zero =>
    intro i m hi hm hj
    refine Ev.step (fun k => rfl) ?_
    simp only [laws_markIntS.l0]
    refine ev_neg (by omega) (ev_some ?_)
    rw [show i = n by omega]
    congr 1
    apply List.ext_getElem (by rw [hm, mkl_length])
    intro j h1 h2
    have a := hj j (by omega)
    have b := mkl_getD 1 n j (by omega)
    rw [List.getD_eq_getElem?_getD, List.getElem?_eq_getElem h1] at a
    rw [List.getD_eq_getElem?_getD, List.getElem?_eq_getElem h2] at b
    simp at a b
    rw [a, b]
  | succ d ih =>
    intro i m hi hm hj
    refine Ev.step (fun k => rfl) ?_
    have hw : wrap64 ((i : Int) + 1) = ((i + 1 : Nat) : Int) := by rw [w64 (by omega) (by omega)]; omega
    have hw2 : wrap64 (1 + (i : Int) + 1) = 1 + ((i + 1 : Nat) : Int) := by rw [w64 (by omega) (by omega)]; omega
    simp only [laws_markIntS.l0, hw, hw2, Int.toNat_natCast]
    refine ev_pos (by omega) (ev_pos (by omega) ?_)
    refine ih (i + 1) _ (by omega) (by simpa using hm) ?_
    intro j hlt
    by_cases e : j = i
    · subst e
      simp [List.getD_eq_getElem?_getD, show j < m.length by omega]
    · have := hj j (by omega)
      simpa [List.getD_eq_getElem?_getD, List.getElem?_set, show i ≠ j by omega] using this
theorem mark_ev (l : List Int) (hn : l.length ≤ 10000000) : Ev (fun k => laws_markIntS.f k l 1) (1 + (l.length : Int), mkl 1 l.length) := by
  simp only [laws_markIntS.f]
  exact mark_l0 l.length hn l.length 0 l (by omega) rfl (fun j hj => by omega)
theorem held_l0 (n : Nat) (hn : n ≤ 10000000) : ∀ d i : Nat, i + d = n → Ev (fun k => laws_heldIntS.l0 k (mkl 1 n) (1 + (i : Int)) (i : Int)) (1 + (n : Int)) := by
  intro d
  induction d with
  | zero =>
    intro i hi
    refine Ev.step (fun k => rfl) ?_
    simp only [laws_heldIntS.l0, mkl_length]
    refine ev_neg (by omega) (ev_some ?_)
    rw [show i = n by omega]
  | succ d ih =>
    intro i hi
    refine Ev.step (fun k => rfl) ?_
    have hw : wrap64 ((i : Int) + 1) = ((i + 1 : Nat) : Int) := by rw [w64 (by omega) (by omega)]; omega
    have hw2 : wrap64 (1 + (i : Int) + 1) = 1 + ((i + 1 : Nat) : Int) := by rw [w64 (by omega) (by omega)]; omega
    simp only [laws_heldIntS.l0, hw, hw2, mkl_length, rd_nat, mkl_getD 1 n i (by omega)]
    exact ev_pos (by omega) (ev_pos (by omega) (ev_pos (by simp) (ih (i + 1) (by omega))))
theorem held_ev (n : Nat) (hn : n ≤ 10000000) : Ev (fun k => laws_heldIntS.f k (mkl 1 n) 1) (1 + (n : Int)) := by
  simp only [laws_heldIntS.f]
  exact held_l0 n hn n 0 (by omega)

def stp (x : Int) (out : List Int) : Nat → Nat
  | 0 => 0
  | n + 1 => if x < out.getD n 0 then stp x out n else n + 1
theorem stp_le (x : Int) (out : List Int) : ∀ n, stp x out n ≤ n
  | 0 => Nat.le_refl _
  | n + 1 => by
    unfold stp
    split
    · exact Nat.le_succ_of_le (stp_le x out n)
    · exact Nat.le_refl _
def insA (out : List Int) (x : Int) : List Int := out.take (stp x out out.length) ++ [x] ++ out.drop (stp x out out.length)
def srt (a : List Int) : List Int := a.foldl insA []
theorem insA_length (out : List Int) (x : Int) : (insA out x).length = out.length + 1 := by
  have := stp_le x out out.length
  unfold insA; simp; omega
theorem l1s_l1 (a out : List Int) (i : Nat) (hi : i < a.length) (ha : a.length ≤ 100000) (ho : out.length ≤ 100000) (r : List Int)
    (h : Ev (fun k => spec_l1Sort.l0 k a (insA out (a.getD i 0)) ((i + 1 : Nat) : Int)) r) :
    ∀ n : Nat, n ≤ out.length → stp (a.getD i 0) out n = stp (a.getD i 0) out out.length → Ev (fun k => spec_l1Sort.l1 k a out (i : Int) (n : Int)) r := by
  have hw : wrap64 ((i : Int) + 1) = ((i + 1 : Nat) : Int) := by rw [w64 (by omega) (by omega)]; omega
  intro n
  induction n with
  | zero =>
    intro hn hs
    refine Ev.step (fun k => rfl) ?_
    simp only [spec_l1Sort.l1, Option.bind_some, hw, rd_nat, List.nil_append, Int.toNat_natCast]
    have e : out.take 0 ++ [a.getD i 0] ++ out.drop 0 = insA out (a.getD i 0) := by
      unfold insA; rw [← hs]; rfl
    rw [e]
    exact ev_neg (by omega) (ev_pos (by omega) (ev_pos (by omega) (ev_pos (by simp) (ev_pos (by omega) (ev_pos (by omega) (ev_pos (by simp) (ev_pos (by simp; omega) h)))))))
  | succ n ih =>
    intro hn hs
    have hw1 : wrap64 (((n + 1 : Nat) : Int) - 1) = (n : Int) := by rw [w64 (by omega) (by omega)]; omega
    refine Ev.step (fun k => rfl) ?_
    simp only [spec_l1Sort.l1, Option.bind_some, hw, hw1, rd_nat, List.nil_append, Int.toNat_natCast]
    refine ev_pos (by omega) (ev_pos (by omega) (ev_pos (by omega) (ev_pos (by omega) (ev_pos (by omega) ?_))))
    by_cases c : a.getD i 0 < out.getD n 0
    · refine ev_pos c (ih (by omega) ?_)
      rw [← hs, stp, if_pos c]
    · have e : out.take (n + 1) ++ [a.getD i 0] ++ out.drop (n + 1) = insA out (a.getD i 0) := by
        unfold insA; rw [← hs, stp, if_neg c]
      rw [e]
      exact ev_neg c (ev_pos (by omega) (ev_pos (by omega) (ev_pos (by simp; omega) (ev_pos (by simp; omega) (ev_pos (by simp; omega) h)))))
theorem l1s_l0 (a : List Int) (ha : a.length ≤ 100000) : ∀ d i : Nat, ∀ out : List Int, i + d = a.length → out.length = i → Ev (fun k => spec_l1Sort.l0 k a out (i : Int)) ((a.drop i).foldl insA out) := by
  intro d
  induction d with
  | zero =>
    intro i out hi ho
    refine Ev.step (fun k => rfl) ?_
    simp only [spec_l1Sort.l0]
    rw [List.drop_of_length_le (by omega)]
    exact ev_neg (by omega) (Ev.now _)
  | succ d ih =>
    intro i out hi ho
    refine Ev.step (fun k => rfl) ?_
    simp only [spec_l1Sort.l0]
    rw [List.drop_eq_getElem_cons (by omega), List.foldl_cons]
    have e : a[i]'(by omega) = a.getD i 0 := by simp [List.getD_eq_getElem?_getD, show i < a.length by omega]
    rw [e]
    refine ev_pos (by omega) ?_
    have h := ih (i + 1) (insA out (a.getD i 0)) (by omega) (by rw [insA_length]; omega)
    exact l1s_l1 a out i (by omega) ha (by omega) _ h out.length (Nat.le_refl _) rfl
theorem l1s_ev (a : List Int) (ha : a.length ≤ 100000) : Ev (fun k => spec_l1Sort.f k a) (srt a) := by
  simp only [spec_l1Sort.f]
  exact l1s_l0 a ha a.length 0 [] (by omega) rfl
theorem foldl_insA_length (a : List Int) : ∀ out : List Int, (a.foldl insA out).length = out.length + a.length := by
  induction a with
  | nil => intro out; simp
  | cons x a ih => intro out; rw [List.foldl_cons, ih, insA_length, List.length_cons]; omega
theorem srt_length (a : List Int) : (srt a).length = a.length := by unfold srt; rw [foldl_insA_length]; simp

def Rul (l : List Int) : Prop := (∀ j : Nat, j < l.length → 1 ≤ l.getD j 0 ∧ l.getD j 0 ≤ 60) ∧ 1 ≤ l.length ∧ l.length ≤ 9
theorem rul_mem {l : List Int} : Rul l ↔ (∀ x ∈ l, 1 ≤ x ∧ x ≤ 60) ∧ 1 ≤ l.length ∧ l.length ≤ 9 := by
  refine ⟨fun h => ⟨fun x hx => ?_, h.2⟩, fun h => ⟨fun j hj => ?_, h.2⟩⟩
  · obtain ⟨j, hj, rfl⟩ := List.getElem_of_mem hx
    have := h.1 j hj
    rwa [List.getD_eq_getElem?_getD, List.getElem?_eq_getElem hj] at this
  · rw [List.getD_eq_getElem?_getD, List.getElem?_eq_getElem hj]
    exact h.1 _ (List.getElem_mem hj)
theorem rul_perm {l m : List Int} (p : l.Perm m) : Rul l ↔ Rul m := by
  rw [rul_mem, rul_mem, p.length_eq]
  exact ⟨fun h => ⟨fun x hx => h.1 x (p.mem_iff.mpr hx), h.2⟩, fun h => ⟨fun x hx => h.1 x (p.mem_iff.mp hx), h.2⟩⟩
theorem pw_get {l : List Int} (h : l.Pairwise (· ≤ ·)) {i j : Nat} (hij : i ≤ j) (hj : j < l.length) : l.getD i 0 ≤ l.getD j 0 := by
  rw [List.getD_eq_getElem?_getD, List.getD_eq_getElem?_getD, List.getElem?_eq_getElem hj, List.getElem?_eq_getElem (by omega : i < l.length)]
  rcases Nat.lt_or_ge i j with c | c
  · exact List.pairwise_iff_getElem.mp h i j _ _ c
  · have : i = j := by omega
    subst this
    exact Int.le_refl _
theorem pw_of {l : List Int} (h : ∀ j : Nat, j + 1 < l.length → l.getD j 0 ≤ l.getD (j + 1) 0) : l.Pairwise (· ≤ ·) := by
  have H : ∀ d i : Nat, i + d < l.length → l.getD i 0 ≤ l.getD (i + d) 0 := by
    intro d
    induction d with
    | zero => intro i _; exact Int.le_refl _
    | succ d ih => intro i hi; exact Int.le_trans (ih i (by omega)) (h (i + d) (by omega))
  rw [List.pairwise_iff_getElem]
  intro i j hi hj hij
  have := H (j - i) i (by omega)
  rw [show i + (j - i) = j by omega] at this
  rwa [List.getD_eq_getElem?_getD, List.getD_eq_getElem?_getD, List.getElem?_eq_getElem hi, List.getElem?_eq_getElem hj] at this
theorem bnd_iff {l : List Int} : Bnd l ↔ Rul l ∧ l.Pairwise (· ≤ ·) :=
  ⟨fun h => ⟨⟨h.2.2.1, h.1, h.2.1⟩, pw_of h.2.2.2⟩, fun h => ⟨h.1.2.1, h.1.2.2, h.1.1, fun j hj => pw_get h.2 (by omega) hj⟩⟩
theorem stp_spec (x : Int) (out : List Int) : ∀ n, (stp x out n = 0 ∨ out.getD (stp x out n - 1) 0 ≤ x) ∧ ∀ j, stp x out n ≤ j → j < n → x < out.getD j 0
  | 0 => ⟨.inl rfl, fun j _ h => absurd h (by omega)⟩
  | n + 1 => by
    unfold stp
    split
    · next h =>
      refine ⟨(stp_spec x out n).1, fun j h1 h2 => ?_⟩
      rcases Nat.lt_or_ge j n with c | c
      · exact (stp_spec x out n).2 j h1 c
      · have : j = n := by omega
        subst this; exact h
    · next h => exact ⟨.inr (by rw [Nat.add_sub_cancel]; omega), fun j h1 h2 => by omega⟩
theorem insA_perm (out : List Int) (x : Int) : (insA out x).Perm (out ++ [x]) := by
  unfold insA
  have h1 : (List.take (stp x out out.length) out ++ [x] ++ List.drop (stp x out out.length) out).Perm (List.take (stp x out out.length) out ++ List.drop (stp x out out.length) out ++ [x]) := by
    rw [List.append_assoc, List.append_assoc]
    exact List.Perm.append_left _ List.perm_append_comm
  rwa [List.take_append_drop] at h1
theorem insA_sorted (out : List Int) (x : Int) (h : out.Pairwise (· ≤ ·)) : (insA out x).Pairwise (· ≤ ·) := by
  unfold insA
  have hs := stp_spec x out out.length
  have hl := stp_le x out out.length
  generalize stp x out out.length = s at hs hl
  have ht : ∀ a ∈ out.take s, a ≤ x := by
    intro a ha
    obtain ⟨j, hj, rfl⟩ := List.getElem_of_mem ha
    rw [List.length_take] at hj
    rcases hs.1 with c | c
    · omega
    · have := pw_get h (show j ≤ s - 1 by omega) (by omega)
      rw [List.getD_eq_getElem?_getD, List.getElem?_eq_getElem (by omega : j < out.length)] at this
      rw [List.getElem_take]
      exact Int.le_trans this c
  have hd : ∀ a ∈ out.drop s, x ≤ a := by
    intro a ha
    obtain ⟨j, hj, rfl⟩ := List.getElem_of_mem ha
    rw [List.length_drop] at hj
    have := hs.2 (s + j) (by omega) (by omega)
    rw [List.getD_eq_getElem?_getD, List.getElem?_eq_getElem (by omega : s + j < out.length)] at this
    rw [List.getElem_drop]
    exact Int.le_of_lt this
  have hp : (out.take s ++ out.drop s).Pairwise (· ≤ ·) := by rw [List.take_append_drop]; exact h
  rw [List.pairwise_append] at hp
  rw [List.pairwise_append, List.pairwise_append]
  refine ⟨⟨hp.1, List.pairwise_singleton .., fun a ha b hb => ?_⟩, hp.2.1, fun a ha b hb => ?_⟩
  · rw [List.mem_singleton] at hb; subst hb; exact ht a ha
  · rw [List.mem_append, List.mem_singleton] at ha
    rcases ha with ha | rfl
    · exact hp.2.2 a ha b hb
    · exact hd b hb
theorem foldl_insA (a : List Int) : ∀ out : List Int, (a.foldl insA out).Perm (out ++ a) ∧ (out.Pairwise (· ≤ ·) → (a.foldl insA out).Pairwise (· ≤ ·)) := by
  induction a with
  | nil => intro out; simp
  | cons x a ih =>
    intro out
    rw [List.foldl_cons]
    refine ⟨?_, fun h => (ih _).2 (insA_sorted out x h)⟩
    have := (ih (insA out x)).1.trans (List.Perm.append_right a (insA_perm out x))
    simpa using this
theorem srt_perm (a : List Int) : (srt a).Perm a := by
  show (a.foldl insA []).Perm a
  simpa using (foldl_insA a []).1
theorem srt_sorted (a : List Int) : (srt a).Pairwise (· ≤ ·) := (foldl_insA a []).2 List.Pairwise.nil
theorem srt_eq {a b : List Int} (p : a.Perm b) (h : b.Pairwise (· ≤ ·)) : srt a = b :=
  ((srt_perm a).trans p).eq_of_pairwise (fun _ _ _ _ h1 h2 => Int.le_antisymm h1 h2) (srt_sorted a) h
theorem ms_eq (a : List Int) : (a.mergeSort fun x y => decide (x ≤ y)) = srt a := by
  refine (srt_eq (List.mergeSort_perm a _).symm ?_).symm
  have := List.pairwise_mergeSort (le := fun x y : Int => decide (x ≤ y)) (fun a b c h1 h2 => by simp at *; omega) (fun a b => by simp; omega) a
  simpa using this
theorem srt_id {a : List Int} (h : a.Pairwise (· ≤ ·)) : srt a = a := srt_eq (List.Perm.refl a) h
theorem bnd_srt (a : List Int) : Bnd (srt a) ↔ Rul a := by
  rw [bnd_iff, rul_perm (srt_perm a)]
  exact ⟨fun h => h.1, fun h => ⟨h, srt_sorted a⟩⟩
theorem isort_ev (l : List Int) (hl : l.length ≤ 9223372036854775000) : Ev (fun k => impl_StickSort.f k l) (if dec (Rul l) = true then (srt l, true) else ([], false)) := by
  simp only [impl_StickSort.f, slices_Clone_int_int.f, slices_Sort_int_int.f]
  have hir : Ev (fun k => impl_isRuler.f k l) (dec (Rul l)) := ir_ev l hl
  refine Ev.bind hir ?_
  by_cases h : Rul l
  · have h2 := h.2
    refine ev_eq (if_pos (dec_true h)).symm (ev_pos (dec_true h) ?_)
    simp only [if_pos (show l.length ≤ 17592186044416 by omega), Option.bind_some, ms_eq]
    exact Ev.now _
  · have e : ¬ dec (Rul l) = true := by rw [dec_false h]; simp
    exact ev_eq (if_neg e).symm (ev_neg e (Ev.now _))

theorem sdone_ev (m : List Int) (hm : m.length ≤ 100000) : Ev (fun k => spec_l1Done.f k (srt m)) (if dec (Rul m) = true then (srt m, true) else ([], false)) := by
  simp only [spec_l1Done.f]
  refine Ev.bind (sb_ev _ (by rw [srt_length]; omega)) ?_
  rw [dec_congr (bnd_srt m)]
  by_cases h : Rul m
  · exact ev_eq (if_pos (dec_true h)).symm (ev_pos (dec_true h) (Ev.now _))
  · have e : ¬ dec (Rul m) = true := by rw [dec_false h]; simp
    exact ev_eq (if_neg e).symm (ev_neg e (Ev.now _))

noncomputable def putr (l : List Int) (x : Int) : List Int × Bool := if dec (Bnd l) = true then (if dec (Rul (l ++ [x])) = true then (srt (l ++ [x]), true) else ([], false)) else ([], false)
theorem iput_ev (l : List Int) (x : Int) (hl : l.length ≤ 9223372036854775000) : Ev (fun k => impl_StickPut.f k l x) (putr l x) := by
  simp only [impl_StickPut.f, putr]
  refine Ev.bind (ii_ev l hl) ?_
  by_cases h : Bnd l
  · have h2 := h.2.1
    refine ev_eq (if_pos (dec_true h)).symm (ev_pos (dec_true h) ?_)
    simp only [slices_Clone_int_int.f, if_pos (show l.length ≤ 17592186044416 by omega), Option.bind_some]
    exact ev_pos (by omega) (Ev.bind (isort_ev (l ++ [x]) (by simp; omega)) (Ev.now _))
  · have e : ¬ dec (Bnd l) = true := by rw [dec_false h]; simp
    exact ev_eq (if_neg e).symm (ev_neg e (Ev.now _))
theorem sput_ev (l : List Int) (x : Int) (hl : l.length ≤ 9223372036854775000) : Ev (fun k => spec_StickPut.f k l x) (putr l x) := by
  simp only [spec_StickPut.f, putr, Option.bind_some, List.nil_append, List.length_nil, Nat.zero_add]
  refine Ev.bind (sb_ev l hl) ?_
  by_cases h : Bnd l
  · have h2 := h.2.1
    refine ev_eq (if_pos (dec_true h)).symm (ev_pos (dec_true h) ?_)
    exact ev_pos (by omega) (ev_pos (by omega) (Ev.bind (l1s_ev (l ++ [x]) (by simp; omega)) (Ev.bind (sdone_ev (l ++ [x]) (by simp; omega)) (Ev.now _))))
  · have e : ¬ dec (Bnd l) = true := by rw [dec_false h]; simp
    exact ev_eq (if_neg e).symm (ev_neg e (Ev.now _))
theorem put_len (l : List Int) (x : Int) : (putr l x).1.length ≤ 1000000 := by
  unfold putr
  by_cases h : Bnd l
  · rw [if_pos (dec_true h)]
    by_cases g : Rul (l ++ [x])
    · rw [if_pos (dec_true g)]; have := g.2.2; rw [srt_length]; omega
    · rw [if_neg (by rw [dec_false g]; simp)]; simp
  · rw [if_neg (by rw [dec_false h]; simp)]; simp

theorem both (l : List Int) (x : Int) (hl : l.length ≤ 9223372036854775000) : ∃ r, Ev (fun k => spec_StickPut.f k l x) r ∧ Ev (fun k => impl_StickPut.f k l x) r ∧ r.1.length ≤ 1000000 := ⟨_, sput_ev l x hl, iput_ev l x hl, put_len l x⟩
theorem FnExactStickPut : laws_FnExactStickPut.Pure := by
  intro l x h1 h2 hw hx
  apply Ev.rounds
  simp only [laws_FnExactStickPut.f]
  by_cases c : (l.length : Int) > 1048576
  · exact ev_pos c (Ev.now _)
  · obtain ⟨r, es, ei, hr⟩ := both l x (by omega)
    have tl := ti_ev l (by omega)
    have ee := ei_ev r.1 r.1 (by omega)
    refine ev_neg c (Ev.bind tl (Ev.bind es (Ev.bind tl (Ev.bind ei (Ev.bind ee (ev_pos (by simp) (Ev.step (fun k => rfl) ?_)))))))
    simp only [laws_FnExactStickPut.j0]
    refine ev_neg (by simp) (Ev.bind tl (Ev.bind (ei_ev l l (by omega)) (ev_pos (by simp) (Ev.bind (mark_ev l (by omega)) (ev_neg (by dsimp only; omega) (Ev.bind ee (ev_pos (by simp) (Ev.step (fun k => rfl) ?_))))))))
    simp only [laws_FnExactStickPut.j1]
    refine ev_neg (by simp) (Ev.bind (mark_ev r.1 (by omega)) (Ev.bind (held_ev _ (by omega)) (ev_neg (by omega) (ev_pos rfl (Ev.bind tl (Ev.bind ei (Ev.bind ee (ev_pos (by simp) (Ev.step (fun k => rfl) ?_)))))))))
    simp only [laws_FnExactStickPut.j2]
    exact ev_neg (by simp) (Ev.bind (held_ev _ (by omega)) (ev_neg (by omega) (ev_pos rfl (Ev.now _))))

end Go.Proofs.Ytagcakhpjjbilaa.Pure
