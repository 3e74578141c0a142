/- The pure statement of FnExactStickThree: for every input the law answers true; no condition. -/
import Derived.Test.YtkolcdknnmgaoaaPFnExactStickThreex1
namespace Go.Proofs.Ytkolcdknnmgaoaa.Pure
open Go.RowKit Go.Proofs.Ytkolcdknnmgaoaa.PFnExactStickThree Go.Proofs.YtkolcdknnmgaoaaW.PrintWords Go.Proofs.YtkolcdknnmgaoaaW.PrintLast Go.Proofs.YtkolcdknnmgaoaaW.PrintMore

theorem ev_pos {α : Type} {c : Prop} [Decidable c] {A B : Nat → Option α} {r : α} (h : c) (e : Ev A r) : Ev (fun k => if c then A k else B k) r := by
  simpa only [if_pos h] using e
theorem ev_neg {α : Type} {c : Prop} [Decidable c] {A B : Nat → Option α} {r : α} (h : ¬ c) (e : Ev B r) : Ev (fun k => if c then A k else B k) r := by
  simpa only [if_neg h] using e
theorem ev_eq {α : Type} {A : Nat → Option α} {r r' : α} (h : r = r') (e : Ev A r) : Ev A r' := h ▸ e
theorem ev_some {α : Type} {r r' : α} (h : r = r') : Ev (fun _ => some r) r' := h ▸ Ev.now r
theorem w64 {n : Int} (h0 : -9223372036854775808 ≤ n) (h1 : n ≤ 9223372036854775807) : wrap64 n = n := by unfold wrap64; omega
theorem rd_nat (l : List Int) (i : Nat) : rd l (i : Int) = l.getD i 0 := by simp [rd]
noncomputable def dec (P : Prop) : Bool := @decide P (Classical.propDecidable P)
theorem dec_true {P : Prop} (h : P) : dec P = true := @decide_eq_true P (Classical.propDecidable P) h
theorem dec_false {P : Prop} (h : ¬ P) : dec P = false := @decide_eq_false P (Classical.propDecidable P) h
theorem dec_iff {P : Prop} : dec P = true ↔ P := ⟨fun h => @of_decide_eq_true P (Classical.propDecidable P) h, dec_true⟩
theorem dec_congr {P Q : Prop} (h : P ↔ Q) : dec P = dec Q := by
  by_cases p : P
  · rw [dec_true p, dec_true (h.mp p)]
  · rw [dec_false p, dec_false (fun q => p (h.mpr q))]
theorem dec_dec {P : Prop} [Decidable P] : decide P = dec P := by
  by_cases p : P
  · rw [dec_true p, decide_eq_true p]
  · rw [dec_false p, decide_eq_false p]

theorem l6In_eq (a b c : Int) : spec_l6In.f a b c = some (decide (b ≤ a ∧ a ≤ c)) := by
  unfold spec_l6In.f
  by_cases h : a ≥ b
  · rw [if_pos h]; congr 1; by_cases g : a ≤ c
    · rw [decide_eq_true g, decide_eq_true ⟨h, g⟩]
    · rw [decide_eq_false g, decide_eq_false (fun x => g x.2)]
  · rw [if_neg h, decide_eq_false (fun x => h x.1)]

theorem ir_l0 (l : List Int) (hl : l.length ≤ 9223372036854775000) : ∀ d i : Nat, i + d = l.length →
    Ev (fun k => impl_isRuler.l0 k l l (l.length : Int) (i : Int)) (dec ((∀ j : Nat, i ≤ j → j < l.length → 1 ≤ l.getD j 0 ∧ l.getD j 0 ≤ 60) ∧ 1 ≤ l.length ∧ l.length ≤ 9)) := by
  intro d
  induction d with
  | zero =>
    intro i hi
    refine Ev.step (fun k => rfl) ?_
    simp only [impl_isRuler.l0]
    refine ev_neg (by omega) ?_
    by_cases h1 : (l.length : Int) ≥ 1
    · refine ev_pos h1 (ev_some ?_)
      rw [dec_dec]
      exact dec_congr ⟨fun h => ⟨fun j h1 h2 => by omega, by omega, by omega⟩, fun h => by omega⟩
    · refine ev_neg h1 (ev_some (dec_false ?_).symm)
      intro h; omega
  | succ d ih =>
    intro i hi
    refine Ev.step (fun k => rfl) ?_
    simp only [impl_isRuler.l0, rd_nat]
    have hw : wrap64 ((i : Int) + 1) = ((i + 1 : Nat) : Int) := by rw [w64 (by omega) (by omega)]; omega
    refine ev_pos (by omega) (ev_pos (by omega) (ev_pos (by omega) ?_))
    by_cases ha : l.getD i 0 < 1
    · refine ev_pos ha (ev_some (dec_false ?_).symm)
      intro h
      have := h.1 i (Nat.le_refl _) (by omega)
      omega
    · refine ev_neg ha ?_
      by_cases hb : l.getD i 0 > 60
      · refine ev_pos hb (ev_some (dec_false ?_).symm)
        intro h
        have := h.1 i (Nat.le_refl _) (by omega)
        omega
      · refine ev_neg hb ?_
        rw [hw]
        refine ev_eq (dec_congr ?_) (ih (i + 1) (by omega))
        constructor
        · rintro ⟨h, g⟩
          refine ⟨fun j h1 h2 => ?_, g⟩
          by_cases e : j = i
          · subst e; omega
          · exact h j (by omega) h2
        · rintro ⟨h, g⟩
          exact ⟨fun j h1 h2 => h j (by omega) h2, g⟩

theorem ir_ev (l : List Int) (hl : l.length ≤ 9223372036854775000) : Ev (fun k => impl_isRuler.f k l) (dec ((∀ j : Nat, j < l.length → 1 ≤ l.getD j 0 ∧ l.getD j 0 ≤ 60) ∧ 1 ≤ l.length ∧ l.length ≤ 9)) := by
  simp only [impl_isRuler.f]
  refine ev_eq (dec_congr ?_) (ir_l0 l hl l.length 0 (by omega))
  exact ⟨fun h => ⟨fun j hj => h.1 j (Nat.zero_le _) hj, h.2⟩, fun h => ⟨fun j _ hj => h.1 j hj, h.2⟩⟩

theorem l1Three_eq (a b c : Int) (ha : 0 ≤ a ∧ a ≤ 1000000) (hb : 0 ≤ b ∧ b ≤ 1000000) (hc : 0 ≤ c ∧ c ≤ 1000000) : spec_l1Three.f a b c = some (decide (a < b + c ∧ b < a + c ∧ c < a + b)) := by
  unfold spec_l1Three.f
  rw [w64 (n := b + c) (by omega) (by omega), w64 (n := a + c) (by omega) (by omega), w64 (n := a + b) (by omega) (by omega)]
  by_cases h1 : a < b + c
  · by_cases h2 : b < a + c
    · rw [if_pos h1, if_pos h2]; simp [h1, h2]
    · rw [if_pos h1, if_neg h2]; simp [h2]
  · rw [if_neg h1]; simp [h1]

def Three (a b c : Int) : Prop := (1 ≤ a ∧ a ≤ 60) ∧ (1 ≤ b ∧ b ≤ 60) ∧ (1 ≤ c ∧ c ≤ 60) ∧ a < b + c ∧ b < a + c ∧ c < a + b
instance (a b c : Int) : Decidable (Three a b c) := by unfold Three; infer_instance
theorem specThree_eq (a b c : Int) : spec_StickThree.f a b c = some (decide (Three a b c)) := by
  simp only [spec_StickThree.f, l6In_eq, Option.bind_some]
  unfold Three
  by_cases h1 : 1 ≤ a ∧ a ≤ 60
  · by_cases h2 : 1 ≤ b ∧ b ≤ 60
    · by_cases h3 : 1 ≤ c ∧ c ≤ 60
      · rw [l1Three_eq a b c (by omega) (by omega) (by omega)]; simp [h1, h2, h3]
      · simp [h1, h2, h3]
    · simp [h1, h2]
  · simp [h1]
theorem implThree_ev (a b c : Int) : Ev (fun k => impl_StickThree.f k a b c) (decide (Three a b c)) := by
  simp only [impl_StickThree.f]
  have e := ir_ev [a, b, c] (by simp)
  refine Ev.bind e ?_
  unfold Three
  by_cases h : (1 ≤ a ∧ a ≤ 60) ∧ (1 ≤ b ∧ b ≤ 60) ∧ (1 ≤ c ∧ c ≤ 60)
  · refine ev_pos (dec_true ?_) ?_
    · refine ⟨fun j hj => ?_, by simp, by simp⟩
      match j, hj with
      | 0, _ => exact h.1
      | 1, _ => exact h.2.1
      | 2, _ => exact h.2.2
      | j + 3, hj => simp at hj; omega
    · rw [w64 (n := b + c) (by omega) (by omega), w64 (n := a + c) (by omega) (by omega), w64 (n := a + b) (by omega) (by omega)]
      by_cases h1 : a < b + c
      · by_cases h2 : b < a + c
        · exact ev_pos h1 (ev_pos h2 (ev_some (by simp [h, h1, h2])))
        · exact ev_pos h1 (ev_neg h2 (ev_some (by simp [h2])))
      · exact ev_neg h1 (ev_some (by simp [h1]))
  · refine ev_neg ?_ (ev_some (decide_eq_false (fun g => h ⟨g.1, g.2.1, g.2.2.1⟩)).symm)
    rw [dec_false ?_]
    · simp
    · intro g
      have g0 := g.1 0 (by simp)
      have g1 := g.1 1 (by simp)
      have g2 := g.1 2 (by simp)
      simp at g0 g1 g2
      exact h ⟨g0, g1, g2⟩

theorem FnExactStickThree : laws_FnExactStickThree.Pure := by
  intro a b c _ _ _
  apply Ev.rounds
  simp only [laws_FnExactStickThree.f, specThree_eq, Option.bind_some]
  exact Ev.bind (implThree_ev a b c) (ev_neg (by simp) (Ev.now _))

end Go.Proofs.Ytkolcdknnmgaoaa.Pure
