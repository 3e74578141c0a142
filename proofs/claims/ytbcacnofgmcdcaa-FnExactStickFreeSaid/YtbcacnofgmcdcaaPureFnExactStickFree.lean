/- The pure statement of FnExactStickFree: for every input the law answers true; no condition. -/
import Derived.Test.YtbcacnofgmcdcaaQFnExactStickFreex2
namespace Go.Proofs.Ytbcacnofgmcdcaa.Pure
open Go.RowKit Go.Proofs.Ytbcacnofgmcdcaa.QFnExactStickFree Go.Proofs.YtbcacnofgmcdcaaW.PrintWords Go.Proofs.YtbcacnofgmcdcaaW.PrintLast Go.Proofs.YtbcacnofgmcdcaaW.PrintMore

theorem ev_pos {α : Type} {c : Prop} [Decidable c] {A B : Nat → Option α} {r : α} (h : c) (e : Ev A r) : Ev (fun k => if c then A k else B k) r := by
  simpa only [if_pos h] using e
theorem ev_neg {α : Type} {c : Prop} [Decidable c] {A B : Nat → Option α} {r : α} (h : ¬ c) (e : Ev B r) : Ev (fun k => if c then A k else B k) r := by
  simpa only [if_neg h] using e
theorem ev_eq {α : Type} {A : Nat → Option α} {r r' : α} (h : r = r') (e : Ev A r) : Ev A r' := h ▸ e
theorem ev_some {α : Type} {r r' : α} (h : r = r') : Ev (fun _ => some r) r' := h ▸ Ev.now r
theorem w64 {n : Int} (h0 : -9223372036854775808 ≤ n) (h1 : n ≤ 9223372036854775807) : wrap64 n = n := by unfold wrap64; omega
theorem rd_nat (l : List Int) (i : Nat) : rd l (i : Int) = l.getD i 0 := by simp [rd]
noncomputable def dec (P : Prop) : Bool := @decide P (Classical.propDecidable P)
theorem dec_true {P : Prop} (h : P) : dec P = true := @decide_eq_true P (Classical.propDecidable P) h
theorem dec_false {P : Prop} (h : ¬ P) : dec P = false := @decide_eq_false P (Classical.propDecidable P) h
theorem dec_iff {P : Prop} : dec P = true ↔ P := ⟨fun h => @of_decide_eq_true P (Classical.propDecidable P) h, dec_true⟩
theorem dec_congr {P Q : Prop} (h : P ↔ Q) : dec P = dec Q := by
  by_cases p : P
  · rw [dec_true p, dec_true (h.mp p)]
  · rw [dec_false p, dec_false (fun q => p (h.mpr q))]
theorem dec_dec {P : Prop} [Decidable P] : decide P = dec P := by
  by_cases p : P
  · rw [dec_true p, decide_eq_true p]
  · rw [dec_false p, decide_eq_false p]

def Bnd (l : List Int) : Prop := 1 ≤ l.length ∧ l.length ≤ 9 ∧ (∀ j : Nat, j < l.length → 1 ≤ l.getD j 0 ∧ l.getD j 0 ≤ 60) ∧ (∀ j : Nat, j + 1 < l.length → l.getD j 0 ≤ l.getD (j + 1) 0)

theorem l6In_eq (a b c : Int) : spec_l6In.f a b c = some (decide (b ≤ a ∧ a ≤ c)) := by
  unfold spec_l6In.f
  by_cases h : a ≥ b
  · rw [if_pos h]; congr 1; by_cases g : a ≤ c
    · rw [decide_eq_true g, decide_eq_true ⟨h, g⟩]
    · rw [decide_eq_false g, decide_eq_false (fun x => g x.2)]
  · rw [if_neg h, decide_eq_false (fun x => h x.1)]

theorem sb_l0 (l : List Int) (hl : l.length ≤ 9223372036854775000) : ∀ d i : Nat, i + d = l.length →
    Ev (fun k => spec_l1Bundle.l0 k l (i : Int)) (dec ((∀ j : Nat, i ≤ j → j < l.length → (1 ≤ l.getD j 0 ∧ l.getD j 0 ≤ 60) ∧ (0 < j → l.getD (j - 1) 0 ≤ l.getD j 0)) ∧ 1 ≤ l.length ∧ l.length ≤ 9)) := by
  intro d
  induction d with
  | zero =>
    intro i hi
    refine Ev.step (fun k => rfl) ?_
    simp only [spec_l1Bundle.l0, l6In_eq, Option.bind_some]
    refine ev_neg (by omega) (ev_some ?_)
    rw [dec_dec]
    exact dec_congr ⟨fun h => ⟨fun j h1 h2 => by omega, by omega, by omega⟩, fun h => by omega⟩
  | succ d ih =>
    intro i hi
    refine Ev.step (fun k => rfl) ?_
    simp only [spec_l1Bundle.l0, l6In_eq, Option.bind_some, rd_nat]
    have hw : wrap64 ((i : Int) + 1) = ((i + 1 : Nat) : Int) := by rw [w64 (by omega) (by omega)]; omega
    have hlt : (i : Int) < (l.length : Int) := by omega
    refine ev_pos hlt (ev_pos (by omega) ?_)
    by_cases hr : 1 ≤ l.getD i 0 ∧ l.getD i 0 ≤ 60
    · refine ev_pos (decide_eq_true hr) ?_
      by_cases h0 : (i : Int) > 0
      · have hw1 : wrap64 ((i : Int) - 1) = ((i - 1 : Nat) : Int) := by rw [w64 (by omega) (by omega)]; omega
        rw [hw1, rd_nat]
        refine ev_pos h0 (ev_pos (by omega) (ev_pos (by omega) ?_))
        by_cases hs : l.getD i 0 < l.getD (i - 1) 0
        · refine ev_pos hs (ev_some (dec_false ?_).symm)
          intro h
          have := (h.1 i (Nat.le_refl _) (by omega)).2 (by omega)
          omega
        · refine ev_neg hs ?_
          rw [hw]
          refine ev_eq (dec_congr ?_) (ih (i + 1) (by omega))
          constructor
          · rintro ⟨h, g⟩
            refine ⟨fun j h1 h2 => ?_, g⟩
            by_cases e : j = i
            · subst e; exact ⟨hr, fun _ => by omega⟩
            · exact h j (by omega) h2
          · rintro ⟨h, g⟩
            exact ⟨fun j h1 h2 => h j (by omega) h2, g⟩
      · refine ev_neg h0 ?_
        rw [hw]
        refine ev_eq (dec_congr ?_) (ih (i + 1) (by omega))
        constructor
        · rintro ⟨h, g⟩
          refine ⟨fun j h1 h2 => ?_, g⟩
          by_cases e : j = i
          · subst e; exact ⟨hr, fun _ => by omega⟩
          · exact h j (by omega) h2
        · rintro ⟨h, g⟩
          exact ⟨fun j h1 h2 => h j (by omega) h2, g⟩
    · refine ev_neg (by simpa using hr) (ev_some (dec_false ?_).symm)
      intro h
      exact hr (h.1 i (Nat.le_refl _) (by omega)).1

theorem sb_ev (l : List Int) (hl : l.length ≤ 9223372036854775000) : Ev (fun k => spec_l1Bundle.f k l) (dec (Bnd l)) := by
  simp only [spec_l1Bundle.f]
  refine ev_eq (dec_congr ?_) (sb_l0 l hl l.length 0 (by omega))
  unfold Bnd
  constructor
  · rintro ⟨h, g1, g2⟩
    exact ⟨g1, g2, fun j hj => (h j (Nat.zero_le _) hj).1, fun j hj => (h (j + 1) (Nat.zero_le _) hj).2 (by omega)⟩
  · rintro ⟨g1, g2, h, s⟩
    refine ⟨fun j _ hj => ⟨h j hj, fun h0 => ?_⟩, g1, g2⟩
    have := s (j - 1) (by omega)
    rwa [show j - 1 + 1 = j by omega] at this

theorem ir_l0 (l : List Int) (hl : l.length ≤ 9223372036854775000) : ∀ d i : Nat, i + d = l.length →
    Ev (fun k => impl_isRuler.l0 k l l (l.length : Int) (i : Int)) (dec ((∀ j : Nat, i ≤ j → j < l.length → 1 ≤ l.getD j 0 ∧ l.getD j 0 ≤ 60) ∧ 1 ≤ l.length ∧ l.length ≤ 9)) := by
  intro d
  induction d with
  | zero =>
    intro i hi
    refine Ev.step (fun k => rfl) ?_
    simp only [impl_isRuler.l0]
    refine ev_neg (by omega) ?_
    by_cases h1 : (l.length : Int) ≥ 1
    · refine ev_pos h1 (ev_some ?_)
      rw [dec_dec]
      exact dec_congr ⟨fun h => ⟨fun j h1 h2 => by omega, by omega, by omega⟩, fun h => by omega⟩
    · refine ev_neg h1 (ev_some (dec_false ?_).symm)
      intro h; omega
  | succ d ih =>
    intro i hi
    refine Ev.step (fun k => rfl) ?_
    simp only [impl_isRuler.l0, rd_nat]
    have hw : wrap64 ((i : Int) + 1) = ((i + 1 : Nat) : Int) := by rw [w64 (by omega) (by omega)]; omega
    refine ev_pos (by omega) (ev_pos (by omega) (ev_pos (by omega) ?_))
    by_cases ha : l.getD i 0 < 1
    · refine ev_pos ha (ev_some (dec_false ?_).symm)
      intro h
      have := h.1 i (Nat.le_refl _) (by omega)
      omega
    · refine ev_neg ha ?_
      by_cases hb : l.getD i 0 > 60
      · refine ev_pos hb (ev_some (dec_false ?_).symm)
        intro h
        have := h.1 i (Nat.le_refl _) (by omega)
        omega
      · refine ev_neg hb ?_
        rw [hw]
        refine ev_eq (dec_congr ?_) (ih (i + 1) (by omega))
        constructor
        · rintro ⟨h, g⟩
          refine ⟨fun j h1 h2 => ?_, g⟩
          by_cases e : j = i
          · subst e; omega
          · exact h j (by omega) h2
        · rintro ⟨h, g⟩
          exact ⟨fun j h1 h2 => h j (by omega) h2, g⟩

theorem ir_ev (l : List Int) (hl : l.length ≤ 9223372036854775000) : Ev (fun k => impl_isRuler.f k l) (dec ((∀ j : Nat, j < l.length → 1 ≤ l.getD j 0 ∧ l.getD j 0 ≤ 60) ∧ 1 ≤ l.length ∧ l.length ≤ 9)) := by
  simp only [impl_isRuler.f]
  refine ev_eq (dec_congr ?_) (ir_l0 l hl l.length 0 (by omega))
  exact ⟨fun h => ⟨fun j hj => h.1 j (Nat.zero_le _) hj, h.2⟩, fun h => ⟨fun j _ hj => h.1 j hj, h.2⟩⟩

theorem less_eq (a b : Int) : cmp_Less_int.f a b = some (decide (a < b)) := by
  simp [cmp_Less_int.f, cmp_isNaN_int.f]

theorem is_l0 (l : List Int) (hl : l.length ≤ 9223372036854775000) : ∀ i : Nat, i < l.length ∨ i = 0 →
    Ev (fun k => slices_IsSorted_int_int.l0 k l (i : Int)) (dec (∀ j : Nat, j < i → l.getD j 0 ≤ l.getD (j + 1) 0)) := by
  intro i
  induction i with
  | zero =>
    intro _
    refine Ev.step (fun k => rfl) ?_
    simp only [slices_IsSorted_int_int.l0]
    refine ev_neg (by omega) (ev_some (dec_true ?_).symm)
    intro j hj; omega
  | succ i ih =>
    intro hi
    have hi' : i + 1 < l.length := by omega
    have hw : wrap64 (((i + 1 : Nat) : Int) - 1) = (i : Int) := by rw [w64 (by omega) (by omega)]; omega
    refine Ev.step (fun k => rfl) ?_
    simp only [slices_IsSorted_int_int.l0, hw, rd_nat, less_eq, Option.bind_some]
    refine ev_pos (by omega) (ev_pos (by omega) (ev_pos (by omega) (ev_pos (by omega) (ev_pos (by omega) ?_))))
    by_cases hs : l.getD (i + 1) 0 < l.getD i 0
    · refine ev_pos (decide_eq_true hs) (ev_some (dec_false ?_).symm)
      intro h
      have := h i (by omega)
      omega
    · refine ev_neg (by simpa using hs) ?_
      refine ev_eq (dec_congr ?_) (ih (by omega))
      constructor
      · intro h j hj
        by_cases e : j = i
        · subst e; omega
        · exact h j (by omega)
      · intro h j hj
        exact h j (by omega)

theorem is_ev (l : List Int) (hl : l.length ≤ 9223372036854775000) : Ev (fun k => slices_IsSorted_int_int.f k l) (dec (∀ j : Nat, j + 1 < l.length → l.getD j 0 ≤ l.getD (j + 1) 0)) := by
  simp only [slices_IsSorted_int_int.f]
  by_cases h0 : l.length = 0
  · rw [show wrap64 ((l.length : Int) - 1) = -1 by rw [w64 (by omega) (by omega)]; omega]
    refine Ev.step (fun k => rfl) ?_
    simp only [slices_IsSorted_int_int.l0]
    refine ev_neg (by omega) (ev_some (dec_true ?_).symm)
    intro j hj; omega
  · rw [show wrap64 ((l.length : Int) - 1) = ((l.length - 1 : Nat) : Int) by rw [w64 (by omega) (by omega)]; omega]
    refine ev_eq (dec_congr ?_) (is_l0 l hl (l.length - 1) (by omega))
    exact ⟨fun h j hj => h j (by omega), fun h j hj => h j (by omega)⟩

theorem ii_ev (l : List Int) (hl : l.length ≤ 9223372036854775000) : Ev (fun k => impl_StickIn.f k l) (dec (Bnd l)) := by
  simp only [impl_StickIn.f]
  refine Ev.bind (ir_ev l hl) ?_
  by_cases h : (∀ j : Nat, j < l.length → 1 ≤ l.getD j 0 ∧ l.getD j 0 ≤ 60) ∧ 1 ≤ l.length ∧ l.length ≤ 9
  · refine ev_pos (dec_true h) (Ev.bind (is_ev l hl) (ev_some (dec_congr ?_)))
    exact ⟨fun s => ⟨h.2.1, h.2.2, h.1, s⟩, fun b => b.2.2.2⟩
  · refine ev_neg (by rw [dec_false h]; exact Bool.false_ne_true) (ev_some (dec_false ?_).symm)
    exact fun b => h ⟨b.2.2.1, b.1, b.2.1⟩

theorem ti_l0 (l : List Int) (hl : l.length ≤ 9223372036854775000) : ∀ d i : Nat, ∀ m : List Int, i + d = l.length → m.length = l.length → (∀ j : Nat, j < i → m.getD j 0 = l.getD j 0) →
    Ev (fun k => laws_toIntS.l0 k l m (i : Int)) l := by
  intro d
  induction d with
  | zero =>
    intro i m hi hm hj
    refine Ev.step (fun k => rfl) ?_
    simp only [laws_toIntS.l0]
    refine ev_neg (by omega) (ev_some ?_)
    apply List.ext_getElem hm
    intro j h1 h2
    have := hj j (by omega)
    simpa [List.getD_eq_getElem?_getD, h1, h2] using this
  | succ d ih =>
    intro i m hi hm hj
    refine Ev.step (fun k => rfl) ?_
    have hw : wrap64 ((i : Int) + 1) = ((i + 1 : Nat) : Int) := by rw [w64 (by omega) (by omega)]; omega
    simp only [laws_toIntS.l0, hw, rd_nat, Int.toNat_natCast]
    refine ev_pos (by omega) (ev_pos (by omega) (ev_pos (by omega) ?_))
    refine ih (i + 1) _ (by omega) (by simpa using hm) ?_
    intro j hlt
    by_cases e : j = i
    · subst e
      simp [List.getD_eq_getElem?_getD, show j < m.length by omega]
    · have := hj j (by omega)
      simpa [List.getD_eq_getElem?_getD, List.getElem?_set, show i ≠ j by omega] using this

theorem ti_ev (l : List Int) (hl : l.length ≤ 35184372088832) : Ev (fun k => laws_toIntS.f k l) l := by
  simp only [laws_toIntS.f]
  refine ev_pos (by omega) (ev_pos (by omega) ?_)
  exact ti_l0 l (by omega) l.length 0 _ (by omega) (by simp) (fun j hj => by omega)

theorem ei_l0 (l m : List Int) (hl : l.length ≤ 9223372036854775000) (hm : l.length = m.length) : ∀ d i : Nat, i + d = l.length → (∀ j : Nat, j < i → l.getD j 0 = m.getD j 0) →
    Ev (fun k => laws_eqIntS.l0 k l m (i : Int)) (decide (l = m)) := by
  intro d
  induction d with
  | zero =>
    intro i hi hj
    refine Ev.step (fun k => rfl) ?_
    simp only [laws_eqIntS.l0]
    refine ev_neg (by omega) (ev_some (decide_eq_true ?_).symm)
    apply List.ext_getElem hm
    intro j h1 h2
    have := hj j (by omega)
    simpa [List.getD_eq_getElem?_getD, h1, h2] using this
  | succ d ih =>
    intro i hi hj
    refine Ev.step (fun k => rfl) ?_
    have hw : wrap64 ((i : Int) + 1) = ((i + 1 : Nat) : Int) := by rw [w64 (by omega) (by omega)]; omega
    simp only [laws_eqIntS.l0, hw, rd_nat]
    refine ev_pos (by omega) (ev_pos (by omega) (ev_pos (by omega) ?_))
    by_cases e : l.getD i 0 = m.getD i 0
    · refine ev_pos e (ih (i + 1) (by omega) ?_)
      intro j h
      by_cases x : j = i
      · rw [x]; exact e
      · exact hj j (by omega)
    · refine ev_neg e (ev_some (decide_eq_false ?_).symm)
      intro x; exact e (by rw [x])

theorem ei_ev (l m : List Int) (hl : l.length ≤ 9223372036854775000) : Ev (fun k => laws_eqIntS.f k l m) (decide (l = m)) := by
  simp only [laws_eqIntS.f]
  by_cases h : (l.length : Int) = (m.length : Int)
  · exact ev_pos h (ei_l0 l m hl (by omega) l.length 0 (by omega) (fun j hj => by omega))
  · refine ev_neg h (ev_some (decide_eq_false ?_).symm)
    intro x; exact h (by rw [x])

theorem l1Three_eq (a b c : Int) (ha : 0 ≤ a ∧ a ≤ 1000000) (hb : 0 ≤ b ∧ b ≤ 1000000) (hc : 0 ≤ c ∧ c ≤ 1000000) : spec_l1Three.f a b c = some (decide (a < b + c ∧ b < a + c ∧ c < a + b)) := by
  unfold spec_l1Three.f
  rw [w64 (n := b + c) (by omega) (by omega), w64 (n := a + c) (by omega) (by omega), w64 (n := a + b) (by omega) (by omega)]
  by_cases h1 : a < b + c
  · by_cases h2 : b < a + c
    · rw [if_pos h1, if_pos h2]; simp [h1, h2]
    · rw [if_pos h1, if_neg h2]; simp [h2]
  · rw [if_neg h1]; simp [h1]

def trI (n : Nat) : List (Nat × Nat × Nat) := (List.range' 0 n).flatMap fun x => (List.range' (x + 1) (n - (x + 1))).flatMap fun y => (List.range' (y + 1) (n - (y + 1))).flatMap fun z => [(x, y, z)]
def trS (n : Nat) : List (Nat × Nat × Nat) := (List.range' 0 n).flatMap fun i => (List.range' 0 i).flatMap fun j => (List.range' 0 j).flatMap fun k => [(k, j, i)]
theorem tr_perm {n : Nat} (h : n ≤ 9) : (trI n).Perm (trS n) := by
  have T : (List.range 10).all (fun n => (trI n).isPerm (trS n)) = true := by decide +kernel
  rw [List.all_eq_true] at T
  exact List.isPerm_iff.mp (T n (List.mem_range.mpr (by omega)))
theorem foldl_flat {α β σ : Type} (g : α → List β) (f : σ → β → σ) (l : List α) (s : σ) : (l.flatMap g).foldl f s = l.foldl (fun s x => (g x).foldl f s) s := by
  induction l generalizing s with
  | nil => rfl
  | cons a l ih => simp only [List.flatMap_cons, List.foldl_append, List.foldl_cons, ih]
theorem mem_trI {n : Nat} {t : Nat × Nat × Nat} : t ∈ trI n ↔ t.1 < t.2.1 ∧ t.2.1 < t.2.2 ∧ t.2.2 < n := by
  obtain ⟨a, b, c⟩ := t
  simp only [trI, List.mem_flatMap, List.mem_range'_1, List.mem_singleton, Prod.mk.injEq]
  constructor
  · rintro ⟨x, hx, y, hy, z, hz, rfl, rfl, rfl⟩
    omega
  · rintro ⟨h1, h2, h3⟩
    exact ⟨a, by omega, b, by omega, c, by omega, rfl, rfl, rfl⟩
theorem foldl_count (p : Nat × Nat × Nat → Bool) (l : List (Nat × Nat × Nat)) (n : Int) : l.foldl (fun n t => if p t = true then n + 1 else n) n = n + (l.countP p : Nat) := by
  induction l generalizing n with
  | nil => simp
  | cons a l ih =>
    rw [List.foldl_cons, ih, List.countP_cons]
    split <;> omega
theorem tri_count (p : Nat × Nat × Nat → Bool) {n : Nat} (h : n ≤ 9) : (trI n).countP p ≤ 84 := by
  refine Nat.le_trans List.countP_le_length ?_
  have T : (List.range 10).all (fun n => decide ((trI n).length ≤ 84)) = true := by decide +kernel
  rw [List.all_eq_true] at T
  exact of_decide_eq_true (T n (List.mem_range.mpr (by omega)))
theorem foldl_max (p : Nat × Nat × Nat → Bool) (f : Nat × Nat × Nat → Int) (l : List (Nat × Nat × Nat)) (m : Int) :
    let w := l.foldl (fun m t => if p t = true then mx m (f t) else m) m
    m ≤ w ∧ (∀ t ∈ l, p t = true → f t ≤ w) ∧ (w = m ∨ ∃ t ∈ l, p t = true ∧ f t = w) := by
  induction l generalizing m with
  | nil => simp
  | cons a l ih =>
    simp only [List.foldl_cons]
    by_cases h : p a = true
    · rw [if_pos h]
      obtain ⟨h1, h2, h3⟩ := ih (mx m (f a))
      have hm : m ≤ mx m (f a) ∧ f a ≤ mx m (f a) ∧ (mx m (f a) = m ∨ mx m (f a) = f a) := by unfold mx; split <;> omega
      refine ⟨by omega, ?_, ?_⟩
      · intro t ht hp
        rcases List.mem_cons.mp ht with rfl | ht
        · omega
        · exact h2 t ht hp
      · rcases h3 with h3 | ⟨t, ht, hp, e⟩
        · rcases hm.2.2 with e | e
          · left; omega
          · right; exact ⟨a, List.mem_cons_self .., h, by omega⟩
        · right; exact ⟨t, List.mem_cons_of_mem _ ht, hp, e⟩
    · rw [if_neg h]
      obtain ⟨h1, h2, h3⟩ := ih m
      refine ⟨h1, ?_, ?_⟩
      · intro t ht hp
        rcases List.mem_cons.mp ht with rfl | ht
        · exact absurd hp h
        · exact h2 t ht hp
      · rcases h3 with h3 | ⟨t, ht, hp, e⟩
        · exact .inl h3
        · exact .inr ⟨t, List.mem_cons_of_mem _ ht, hp, e⟩

theorem bnd_mono {l : List Int} (h : Bnd l) : ∀ d i : Nat, i + d < l.length → l.getD i 0 ≤ l.getD (i + d) 0
  | 0, i, _ => by simp
  | d + 1, i, hi => by
    have a := bnd_mono h d i (by omega)
    have b := h.2.2.2 (i + d) (by omega)
    rw [show i + (d + 1) = i + d + 1 by omega]
    omega
theorem bnd_le {l : List Int} (h : Bnd l) {i j : Nat} (hij : i ≤ j) (hj : j < l.length) : l.getD i 0 ≤ l.getD j 0 := by
  have := bnd_mono h (j - i) i (by omega)
  rwa [show i + (j - i) = j by omega] at this
def pI (l : List Int) (t : Nat × Nat × Nat) : Bool := decide (l.getD t.2.2 0 < l.getD t.1 0 + l.getD t.2.1 0)

noncomputable def cnt (l : List Int) : Int := ((trI l.length).countP (pI l) : Nat)
theorem foldl_countw (p : Nat × Nat × Nat → Bool) (g : Int → Nat × Nat × Nat → Int) (l : List (Nat × Nat × Nat)) (n : Int) (hg : ∀ n : Int, 0 ≤ n → n ≤ 1000000 → ∀ t ∈ l, g n t = if p t = true then n + 1 else n) (h0 : 0 ≤ n) (hn : n + l.length ≤ 1000000) :
    l.foldl g n = n + (l.countP p : Nat) := by
  induction l generalizing n with
  | nil => simp
  | cons a l ih =>
    rw [List.length_cons] at hn
    rw [List.foldl_cons, hg n h0 (by omega) a (List.mem_cons_self ..), List.countP_cons]
    by_cases c : p a = true
    · rw [if_pos c, ih (n + 1) (fun n a b t ht => hg n a b t (List.mem_cons_of_mem _ ht)) (by omega) (by omega), if_pos c]; omega
    · rw [if_neg c, ih n (fun n a b t ht => hg n a b t (List.mem_cons_of_mem _ ht)) h0 (by omega), if_neg c]; omega
theorem tr_len {n : Nat} (h : n ≤ 9) : (trI n).length ≤ 84 := by
  have T : (List.range 10).all (fun n => decide ((trI n).length ≤ 84)) = true := by decide +kernel
  rw [List.all_eq_true] at T
  exact of_decide_eq_true (T n (List.mem_range.mpr (by omega)))

theorem im_l2 (l : List Int) (hl : l.length ≤ 1000) (x y : Nat) (hx : x < l.length) (hy : y < l.length) (r : Int) : ∀ d z : Nat, ∀ m : Int, z + d = l.length →
    Ev (fun k => impl_StickMany.l1 k l (x : Int) ((y + 1 : Nat) : Int) ((List.range' z d).foldl (fun m (z : Nat) => impl_StickMany.step l x y z m) m)) r → Ev (fun k => impl_StickMany.l2 k l (x : Int) (y : Int) (z : Int) m) r := by
  intro d
  induction d with
  | zero =>
    intro z m hz h
    have hw : wrap64 ((y : Int) + 1) = ((y + 1 : Nat) : Int) := by rw [w64 (by omega) (by omega)]; omega
    refine Ev.step (fun k => rfl) ?_
    simp only [impl_StickMany.l2, hw]
    exact ev_neg (by omega) h
  | succ d ih =>
    intro z m hz h
    have hw : wrap64 ((z : Int) + 1) = ((z + 1 : Nat) : Int) := by rw [w64 (by omega) (by omega)]; omega
    refine Ev.step (fun k => rfl) ?_
    simp only [impl_StickMany.l2, hw]
    exact ev_pos (by omega) (ev_pos (by omega) (ih (z + 1) _ (by omega) h))
theorem im_l1 (l : List Int) (hl : l.length ≤ 1000) (x : Nat) (hx : x < l.length) (r : Int) : ∀ d y : Nat, ∀ m : Int, y + d = l.length →
    Ev (fun k => impl_StickMany.l0 k l ((x + 1 : Nat) : Int) ((List.range' y d).foldl (fun m (y : Nat) => (List.range' (y + 1) (l.length - (y + 1))).foldl (fun m (z : Nat) => impl_StickMany.step l x y z m) m) m)) r → Ev (fun k => impl_StickMany.l1 k l (x : Int) (y : Int) m) r := by
  intro d
  induction d with
  | zero =>
    intro y m hy h
    have hw : wrap64 ((x : Int) + 1) = ((x + 1 : Nat) : Int) := by rw [w64 (by omega) (by omega)]; omega
    refine Ev.step (fun k => rfl) ?_
    simp only [impl_StickMany.l1, hw]
    exact ev_neg (by omega) h
  | succ d ih =>
    intro y m hy h
    have hw : wrap64 ((y : Int) + 1) = ((y + 1 : Nat) : Int) := by rw [w64 (by omega) (by omega)]; omega
    refine Ev.step (fun k => rfl) ?_
    simp only [impl_StickMany.l1, hw]
    exact ev_pos (by omega) (im_l2 l hl x y hx (by omega) r (l.length - (y + 1)) (y + 1) m (by omega) (ih (y + 1) _ (by omega) h))
theorem im_l0 (l : List Int) (hl : l.length ≤ 1000) : ∀ d x : Nat, ∀ m : Int, x + d = l.length →
    Ev (fun k => impl_StickMany.l0 k l (x : Int) m) ((List.range' x d).foldl (fun m (x : Nat) => (List.range' (x + 1) (l.length - (x + 1))).foldl (fun m (y : Nat) => (List.range' (y + 1) (l.length - (y + 1))).foldl (fun m (z : Nat) => impl_StickMany.step l x y z m) m) m) m) := by
  intro d
  induction d with
  | zero =>
    intro x m hx
    refine Ev.step (fun k => rfl) ?_
    simp only [impl_StickMany.l0]
    exact ev_neg (by omega) (Ev.now _)
  | succ d ih =>
    intro x m hx
    have hw : wrap64 ((x : Int) + 1) = ((x + 1 : Nat) : Int) := by rw [w64 (by omega) (by omega)]; omega
    refine Ev.step (fun k => rfl) ?_
    simp only [impl_StickMany.l0, hw]
    refine ev_pos (by omega) (im_l1 l hl x (by omega) _ (l.length - (x + 1)) (x + 1) m (by omega) (ih (x + 1) _ (by omega)))
theorem im_ev (l : List Int) (hl : l.length ≤ 1000) (m : Int) : Ev (fun k => impl_StickMany.l0 k l 0 m) ((trI l.length).foldl (fun m (t : Nat × Nat × Nat) => impl_StickMany.step l t.1 t.2.1 t.2.2 m) m) := by
  have h := im_l0 l hl l.length 0 m (by omega)
  have e : (trI l.length).foldl (fun m (t : Nat × Nat × Nat) => impl_StickMany.step l t.1 t.2.1 t.2.2 m) m = (List.range' 0 l.length).foldl (fun m (x : Nat) => (List.range' (x + 1) (l.length - (x + 1))).foldl (fun m (y : Nat) => (List.range' (y + 1) (l.length - (y + 1))).foldl (fun m (z : Nat) => impl_StickMany.step l x y z m) m) m) m := by
    unfold trI
    simp only [foldl_flat, List.foldl_cons, List.foldl_nil]
  rw [e]
  exact h

theorem implMany_ev (l : List Int) (hl : l.length ≤ 9223372036854775000) : Ev (fun k => impl_StickMany.f k l) (if dec (Bnd l) = true then (cnt l, true) else (0, false)) := by
  simp only [impl_StickMany.f]
  refine Ev.bind (ii_ev l hl) ?_
  by_cases h : Bnd l
  · rw [dec_true h, if_pos rfl]
    have h9 := h.2.1
    refine ev_pos rfl (Ev.bind (im_ev l (by omega) 0) (ev_some ?_))
    rw [foldl_countw (pI l) _ (trI l.length) 0 ?_ (by omega) (by have := tr_len h9; omega)]
    · unfold cnt; simp
    · intro n n0 n1 t ht
      obtain ⟨a, b, c⟩ := mem_trI.mp ht
      have b1 := h.2.2.1 t.1 (by omega)
      have b2 := h.2.2.1 t.2.1 (by omega)
      unfold impl_StickMany.step pI
      rw [rd_nat, rd_nat, rd_nat, w64 (n := l.getD t.1 0 + l.getD t.2.1 0) (by omega) (by omega), w64 (n := n + 1) (by omega) (by omega)]
      by_cases q : l.getD t.2.2 0 < l.getD t.1 0 + l.getD t.2.1 0
      · rw [if_pos q, if_pos (decide_eq_true q)]
      · rw [if_neg q, if_neg (by simpa using q)]
  · rw [dec_false h, if_neg (by simp)]
    exact ev_neg (by simp) (Ev.now _)

theorem pI_three {l : List Int} (h : Bnd l) {i j k : Nat} (hi : i < l.length) (hj : j < i) (hk : k < j) : spec_l1Three.f (l.getD i 0) (l.getD j 0) (l.getD k 0) = some (pI l (k, j, i)) := by
  have b1 := h.2.2.1 i hi
  have b2 := h.2.2.1 j (by omega)
  have b3 := h.2.2.1 k (by omega)
  have m1 := bnd_le h (i := j) (j := i) (by omega) hi
  have m2 := bnd_le h (i := k) (j := j) (by omega) (by omega)
  rw [l1Three_eq _ _ _ (by omega) (by omega) (by omega)]
  congr 1
  unfold pI
  rw [decide_eq_decide]
  show _ ↔ l.getD i 0 < l.getD k 0 + l.getD j 0
  omega

def kfold (l : List Int) (i j : Nat) (s d : Nat) (m : Int) : Int := (List.range' s d).foldl (fun m (k : Nat) => if pI l (k, j, i) = true then m + 1 else m) m
theorem sm_l2 (l : List Int) (h : Bnd l) (i j : Nat) (hi : i < l.length) (hj : j < i) (r : Int) : ∀ d k : Nat, ∀ m : Int, k + d = j → 0 ≤ m → m + d ≤ 1000000 →
    Ev (fun f => spec_l1Many.l1 f l (kfold l i j k d m) (i : Int) ((j + 1 : Nat) : Int)) r → Ev (fun f => spec_l1Many.l2 f l m (i : Int) (j : Int) (k : Int)) r := by
  have h9 := h.2.1
  intro d
  induction d with
  | zero =>
    intro k m hk h0 hm e
    have hw : wrap64 ((j : Int) + 1) = ((j + 1 : Nat) : Int) := by rw [w64 (by omega) (by omega)]; omega
    refine Ev.step (fun k => rfl) ?_
    simp only [spec_l1Many.l2, hw]
    exact ev_neg (by omega) e
  | succ d ih =>
    intro k m hk h0 hm e
    have hw : wrap64 ((k : Int) + 1) = ((k + 1 : Nat) : Int) := by rw [w64 (by omega) (by omega)]; omega
    have hm1 : wrap64 (m + 1) = m + 1 := w64 (by omega) (by omega)
    refine Ev.step (fun k => rfl) ?_
    simp only [spec_l1Many.l2, hw, hm1, rd_nat, pI_three h hi hj (show k < j by omega), Option.bind_some]
    refine ev_pos (by omega) (ev_pos (by omega) (ev_pos (by omega) (ev_pos (by omega) (ev_pos (by omega) (ev_pos (by omega) (ev_pos (by omega) ?_))))))
    have ek : kfold l i j k (d + 1) m = kfold l i j (k + 1) d (if pI l (k, j, i) = true then m + 1 else m) := rfl
    rw [ek] at e
    by_cases c : pI l (k, j, i) = true
    · rw [if_pos c] at e
      exact ev_pos c (ih (k + 1) (m + 1) (by omega) (by omega) (by omega) e)
    · rw [if_neg c] at e
      exact ev_neg c (ih (k + 1) m (by omega) h0 (by omega) e)
theorem kfold_le (l : List Int) (i j : Nat) : ∀ d s : Nat, ∀ m : Int, m ≤ kfold l i j s d m ∧ kfold l i j s d m ≤ m + d
  | 0, _, m => by simp [kfold]
  | d + 1, s, m => by
    have ek : kfold l i j s (d + 1) m = kfold l i j (s + 1) d (if pI l (s, j, i) = true then m + 1 else m) := rfl
    rw [ek]
    by_cases c : pI l (s, j, i) = true
    · rw [if_pos c]; have := kfold_le l i j d (s + 1) (m + 1); omega
    · rw [if_neg c]; have := kfold_le l i j d (s + 1) m; omega
def jfold (l : List Int) (i : Nat) (s d : Nat) (m : Int) : Int := (List.range' s d).foldl (fun m (j : Nat) => kfold l i j 0 j m) m
theorem sm_l1 (l : List Int) (h : Bnd l) (i : Nat) (hi : i < l.length) (r : Int) : ∀ d j : Nat, ∀ m : Int, j + d = i → 0 ≤ m → m + 10 * d ≤ 100000 →
    Ev (fun f => spec_l1Many.l0 f l (jfold l i j d m) ((i + 1 : Nat) : Int)) r → Ev (fun f => spec_l1Many.l1 f l m (i : Int) (j : Int)) r := by
  have h9 := h.2.1
  intro d
  induction d with
  | zero =>
    intro j m hj h0 hm e
    have hw : wrap64 ((i : Int) + 1) = ((i + 1 : Nat) : Int) := by rw [w64 (by omega) (by omega)]; omega
    refine Ev.step (fun k => rfl) ?_
    simp only [spec_l1Many.l1, hw]
    exact ev_neg (by omega) e
  | succ d ih =>
    intro j m hj h0 hm e
    have hb := kfold_le l i j j 0 m
    refine Ev.step (fun k => rfl) ?_
    simp only [spec_l1Many.l1]
    refine ev_pos (by omega) (sm_l2 l h i j hi (by omega) r j 0 m (by omega) h0 (by omega) ?_)
    exact ih (j + 1) _ (by omega) (by omega) (by omega) e
theorem jfold_le (l : List Int) (i : Nat) : ∀ d s : Nat, ∀ m : Int, s + d ≤ 10 → m ≤ jfold l i s d m ∧ jfold l i s d m ≤ m + 10 * d
  | 0, _, m, _ => by simp [jfold]
  | d + 1, s, m, hs => by
    have ek : jfold l i s (d + 1) m = jfold l i (s + 1) d (kfold l i s 0 s m) := rfl
    rw [ek]
    have a := kfold_le l i s s 0 m
    have b := jfold_le l i d (s + 1) (kfold l i s 0 s m) (by omega)
    omega
def ifold (l : List Int) (s d : Nat) (m : Int) : Int := (List.range' s d).foldl (fun m (i : Nat) => jfold l i 0 i m) m
theorem sm_l0 (l : List Int) (h : Bnd l) : ∀ d i : Nat, ∀ m : Int, i + d = l.length → 0 ≤ m → m + 100 * d ≤ 10000 → Ev (fun f => spec_l1Many.l0 f l m (i : Int)) (ifold l i d m) := by
  have h9 := h.2.1
  intro d
  induction d with
  | zero =>
    intro i m hi h0 hm
    refine Ev.step (fun k => rfl) ?_
    simp only [spec_l1Many.l0]
    exact ev_neg (by omega) (Ev.now _)
  | succ d ih =>
    intro i m hi h0 hm
    have hb := jfold_le l i i 0 m (by omega)
    refine Ev.step (fun k => rfl) ?_
    simp only [spec_l1Many.l0]
    refine ev_pos (by omega) (sm_l1 l h i (by omega) _ i 0 m (by omega) h0 (by omega) ?_)
    exact ih (i + 1) _ (by omega) (by omega) (by omega)
theorem specMany_ev (l : List Int) (h : Bnd l) : Ev (fun k => spec_l1Many.f k l) (cnt l) := by
  simp only [spec_l1Many.f]
  have h9 := h.2.1
  refine ev_eq ?_ (sm_l0 l h l.length 0 0 (by omega) (by omega) (by omega))
  have e : ifold l 0 l.length 0 = (trS l.length).foldl (fun m t => if pI l t = true then m + 1 else m) 0 := by
    unfold ifold jfold kfold trS
    simp only [foldl_flat, List.foldl_cons, List.foldl_nil]
  rw [e, foldl_count, ← (tr_perm h9).countP_eq]
  unfold cnt
  simp

theorem implFree_ev (l : List Int) (hl : l.length ≤ 9223372036854775000) : Ev (fun k => impl_StickFree.f k l) (dec (Bnd l ∧ cnt l = 0)) := by
  simp only [impl_StickFree.f]
  refine Ev.bind (implMany_ev l hl) ?_
  by_cases h : Bnd l
  · have e : (if dec (Bnd l) = true then (cnt l, true) else (0, false)) = (cnt l, true) := by rw [dec_true h]; rfl
    rw [e]
    refine ev_pos rfl (ev_some ?_)
    by_cases c : cnt l = 0
    · rw [dec_true ⟨h, c⟩]; simpa using c
    · rw [dec_false (fun g => c g.2)]; simpa using c
  · have e : (if dec (Bnd l) = true then (cnt l, true) else (0, false)) = (0, false) := by rw [dec_false h]; rfl
    have e2 : dec (Bnd l ∧ cnt l = 0) = false := dec_false (fun g => h g.1)
    rw [e, e2]
    exact ev_neg (by simp) (Ev.now _)

theorem specFree_ev (l : List Int) (hl : l.length ≤ 9223372036854775000) : Ev (fun k => spec_StickFree.f k l) (dec (Bnd l ∧ cnt l = 0)) := by
  simp only [spec_StickFree.f]
  refine Ev.bind (sb_ev l hl) ?_
  by_cases h : Bnd l
  · refine ev_pos (dec_true h) (Ev.bind (specMany_ev l h) (ev_some ?_))
    by_cases c : cnt l = 0
    · rw [dec_true ⟨h, c⟩]; simpa using c
    · rw [dec_false (fun g => c g.2)]; simpa using c
  · have e2 : dec (Bnd l ∧ cnt l = 0) = false := dec_false (fun g => h g.1)
    rw [e2]
    exact ev_neg (by rw [dec_false h]; simp) (Ev.now _)

theorem FnExactStickFree : laws_FnExactStickFree.Pure := by
  intro l h1 h2 hw
  apply Ev.rounds
  simp only [laws_FnExactStickFree.f]
  by_cases c : (l.length : Int) > 1048576
  · exact ev_pos c (Ev.now _)
  · have tl := ti_ev l (by omega)
    exact ev_neg c (Ev.bind tl (Ev.bind (specFree_ev l (by omega)) (Ev.bind tl (Ev.bind (implFree_ev l (by omega)) (ev_pos (by simp) (Ev.bind tl (Ev.bind (ei_ev l l (by omega)) (ev_pos (by simp) (Ev.now _)))))))))

end Go.Proofs.Ytbcacnofgmcdcaa.Pure
