/- The pure statement of FnDrop: for every input the law answers true; no condition. -/
import Derived.Test.YtagcakhpjjbilaaQFnDropx5
namespace Go.Proofs.Ytagcakhpjjbilaa.Pure
open Go.RowKit Go.Proofs.Ytagcakhpjjbilaa.QFnDrop Go.Proofs.YtagcakhpjjbilaaW.PrintWords Go.Proofs.YtagcakhpjjbilaaW.PrintLast Go.Proofs.YtagcakhpjjbilaaW.PrintMore

theorem ev_pos {α : Type} {c : Prop} [Decidable c] {A B : Nat → Option α} {r : α} (h : c) (e : Ev A r) : Ev (fun k => if c then A k else B k) r := by
  simpa only [if_pos h] using e
theorem ev_neg {α : Type} {c : Prop} [Decidable c] {A B : Nat → Option α} {r : α} (h : ¬ c) (e : Ev B r) : Ev (fun k => if c then A k else B k) r := by
  simpa only [if_neg h] using e
theorem ev_eq {α : Type} {A : Nat → Option α} {r r' : α} (h : r = r') (e : Ev A r) : Ev A r' := h ▸ e
theorem ev_some {α : Type} {r r' : α} (h : r = r') : Ev (fun _ => some r) r' := h ▸ Ev.now r
theorem w64 {n : Int} (h0 : -9223372036854775808 ≤ n) (h1 : n ≤ 9223372036854775807) : wrap64 n = n := by unfold wrap64; omega
theorem rd_nat (l : List Int) (i : Nat) : rd l (i : Int) = l.getD i 0 := by simp [rd]
noncomputable def dec (P : Prop) : Bool := @decide P (Classical.propDecidable P)
theorem dec_true {P : Prop} (h : P) : dec P = true := @decide_eq_true P (Classical.propDecidable P) h
theorem dec_false {P : Prop} (h : ¬ P) : dec P = false := @decide_eq_false P (Classical.propDecidable P) h
theorem dec_iff {P : Prop} : dec P = true ↔ P := ⟨fun h => @of_decide_eq_true P (Classical.propDecidable P) h, dec_true⟩
theorem dec_congr {P Q : Prop} (h : P ↔ Q) : dec P = dec Q := by
  by_cases p : P
  · rw [dec_true p, dec_true (h.mp p)]
  · rw [dec_false p, dec_false (fun q => p (h.mpr q))]
theorem dec_dec {P : Prop} [Decidable P] : decide P = dec P := by
  by_cases p : P
  · rw [dec_true p, decide_eq_true p]
  · rw [dec_false p, decide_eq_false p]

def Bnd (l : List Int) : Prop := 1 ≤ l.length ∧ l.length ≤ 9 ∧ (∀ j : Nat, j < l.length → 1 ≤ l.getD j 0 ∧ l.getD j 0 ≤ 60) ∧ (∀ j : Nat, j + 1 < l.length → l.getD j 0 ≤ l.getD (j + 1) 0)

def Sml (l : List Int) : Prop := l.length ≤ 1000 ∧ ∀ j : Nat, 0 ≤ l.getD j 0 ∧ l.getD j 0 ≤ 1000
theorem sml_of_bnd {l : List Int} (h : Bnd l) : Sml l := by
  refine ⟨by have := h.2.1; omega, fun j => ?_⟩
  by_cases hj : j < l.length
  · have := h.2.2.1 j hj; omega
  · rw [List.getD_eq_getElem?_getD, List.getElem?_eq_none (by omega)]; simp
theorem sml_take {l : List Int} (h : Sml l) (n : Nat) : Sml (l.take n) := by
  refine ⟨by simp; have := h.1; omega, fun j => ?_⟩
  have := h.2 j
  rw [List.getD_eq_getElem?_getD] at this ⊢
  rw [List.getElem?_take]
  split
  · exact this
  · simp
theorem drop_cons (l : List Int) (i : Nat) (h : i < l.length) : l.drop i = l.getD i 0 :: l.drop (i + 1) := by
  rw [List.drop_eq_getElem_cons h]; simp [List.getD_eq_getElem?_getD, h]

theorem l6In_eq (a b c : Int) : spec_l6In.f a b c = some (decide (b ≤ a ∧ a ≤ c)) := by
  unfold spec_l6In.f
  by_cases h : a ≥ b
  · rw [if_pos h]; congr 1; by_cases g : a ≤ c
    · rw [decide_eq_true g, decide_eq_true ⟨h, g⟩]
    · rw [decide_eq_false g, decide_eq_false (fun x => g x.2)]
  · rw [if_neg h, decide_eq_false (fun x => h x.1)]

theorem sb_l0 (l : List Int) (hl : l.length ≤ 9223372036854775000) : ∀ d i : Nat, i + d = l.length →
    Ev (fun k => spec_l1Bundle.l0 k l (i : Int)) (dec ((∀ j : Nat, i ≤ j → j < l.length → (1 ≤ l.getD j 0 ∧ l.getD j 0 ≤ 60) ∧ (0 < j → l.getD (j - 1) 0 ≤ l.getD j 0)) ∧ 1 ≤ l.length ∧ l.length ≤ 9)) := by
  intro d
  induction d with
  | zero =>
    intro i hi
    refine Ev.step (fun k => rfl) ?_
    simp only [spec_l1Bundle.l0, l6In_eq, Option.bind_some]
    refine ev_neg (by omega) (ev_some ?_)
    rw [dec_dec]
    exact dec_congr ⟨fun h => ⟨fun j h1 h2 => by omega, by omega, by omega⟩, fun h => by omega⟩
  | succ d ih =>
    intro i hi
    refine Ev.step (fun k => rfl) ?_
    simp only [spec_l1Bundle.l0, l6In_eq, Option.bind_some, rd_nat]
    have hw : wrap64 ((i : Int) + 1) = ((i + 1 : Nat) : Int) := by rw [w64 (by omega) (by omega)]; omega
    have hlt : (i : Int) < (l.length : Int) := by omega
    refine ev_pos hlt (ev_pos (by omega) ?_)
    by_cases hr : 1 ≤ l.getD i 0 ∧ l.getD i 0 ≤ 60
    · refine ev_pos (decide_eq_true hr) ?_
      by_cases h0 : (i : Int) > 0
      · have hw1 : wrap64 ((i : Int) - 1) = ((i - 1 : Nat) : Int) := by rw [w64 (by omega) (by omega)]; omega
        rw [hw1, rd_nat]
        refine ev_pos h0 (ev_pos (by omega) (ev_pos (by omega) ?_))
        by_cases hs : l.getD i 0 < l.getD (i - 1) 0
        · refine ev_pos hs (ev_some (dec_false ?_).symm)
          intro h
          have := (h.1 i (Nat.le_refl _) (by omega)).2 (by omega)
          omega
        · refine ev_neg hs ?_
          rw [hw]
          refine ev_eq (dec_congr ?_) (ih (i + 1) (by omega))
          constructor
          · rintro ⟨h, g⟩
            refine ⟨fun j h1 h2 => ?_, g⟩
            by_cases e : j = i
            · subst e; exact ⟨hr, fun _ => by omega⟩
            · exact h j (by omega) h2
          · rintro ⟨h, g⟩
            exact ⟨fun j h1 h2 => h j (by omega) h2, g⟩
      · refine ev_neg h0 ?_
        rw [hw]
        refine ev_eq (dec_congr ?_) (ih (i + 1) (by omega))
        constructor
        · rintro ⟨h, g⟩
          refine ⟨fun j h1 h2 => ?_, g⟩
          by_cases e : j = i
          · subst e; exact ⟨hr, fun _ => by omega⟩
          · exact h j (by omega) h2
        · rintro ⟨h, g⟩
          exact ⟨fun j h1 h2 => h j (by omega) h2, g⟩
    · refine ev_neg (by simpa using hr) (ev_some (dec_false ?_).symm)
      intro h
      exact hr (h.1 i (Nat.le_refl _) (by omega)).1

theorem sb_ev (l : List Int) (hl : l.length ≤ 9223372036854775000) : Ev (fun k => spec_l1Bundle.f k l) (dec (Bnd l)) := by
  simp only [spec_l1Bundle.f]
  refine ev_eq (dec_congr ?_) (sb_l0 l hl l.length 0 (by omega))
  unfold Bnd
  constructor
  · rintro ⟨h, g1, g2⟩
    exact ⟨g1, g2, fun j hj => (h j (Nat.zero_le _) hj).1, fun j hj => (h (j + 1) (Nat.zero_le _) hj).2 (by omega)⟩
  · rintro ⟨g1, g2, h, s⟩
    refine ⟨fun j _ hj => ⟨h j hj, fun h0 => ?_⟩, g1, g2⟩
    have := s (j - 1) (by omega)
    rwa [show j - 1 + 1 = j by omega] at this

theorem ir_l0 (l : List Int) (hl : l.length ≤ 9223372036854775000) : ∀ d i : Nat, i + d = l.length →
    Ev (fun k => impl_isRuler.l0 k l l (l.length : Int) (i : Int)) (dec ((∀ j : Nat, i ≤ j → j < l.length → 1 ≤ l.getD j 0 ∧ l.getD j 0 ≤ 60) ∧ 1 ≤ l.length ∧ l.length ≤ 9)) := by
  intro d
  induction d with
  | zero =>
    intro i hi
    refine Ev.step (fun k => rfl) ?_
    simp only [impl_isRuler.l0]
    refine ev_neg (by omega) ?_
    by_cases h1 : (l.length : Int) ≥ 1
    · refine ev_pos h1 (ev_some ?_)
      rw [dec_dec]
      exact dec_congr ⟨fun h => ⟨fun j h1 h2 => by omega, by omega, by omega⟩, fun h => by omega⟩
    · refine ev_neg h1 (ev_some (dec_false ?_).symm)
      intro h; omega
  | succ d ih =>
    intro i hi
    refine Ev.step (fun k => rfl) ?_
    simp only [impl_isRuler.l0, rd_nat]
    have hw : wrap64 ((i : Int) + 1) = ((i + 1 : Nat) : Int) := by rw [w64 (by omega) (by omega)]; omega
    refine ev_pos (by omega) (ev_pos (by omega) (ev_pos (by omega) ?_))
    by_cases ha : l.getD i 0 < 1
    · refine ev_pos ha (ev_some (dec_false ?_).symm)
      intro h
      have := h.1 i (Nat.le_refl _) (by omega)
      omega
    · refine ev_neg ha ?_
      by_cases hb : l.getD i 0 > 60
      · refine ev_pos hb (ev_some (dec_false ?_).symm)
        intro h
        have := h.1 i (Nat.le_refl _) (by omega)
        omega
      · refine ev_neg hb ?_
        rw [hw]
        refine ev_eq (dec_congr ?_) (ih (i + 1) (by omega))
        constructor
        · rintro ⟨h, g⟩
          refine ⟨fun j h1 h2 => ?_, g⟩
          by_cases e : j = i
          · subst e; omega
          · exact h j (by omega) h2
        · rintro ⟨h, g⟩
          exact ⟨fun j h1 h2 => h j (by omega) h2, g⟩

theorem ir_ev (l : List Int) (hl : l.length ≤ 9223372036854775000) : Ev (fun k => impl_isRuler.f k l) (dec ((∀ j : Nat, j < l.length → 1 ≤ l.getD j 0 ∧ l.getD j 0 ≤ 60) ∧ 1 ≤ l.length ∧ l.length ≤ 9)) := by
  simp only [impl_isRuler.f]
  refine ev_eq (dec_congr ?_) (ir_l0 l hl l.length 0 (by omega))
  exact ⟨fun h => ⟨fun j hj => h.1 j (Nat.zero_le _) hj, h.2⟩, fun h => ⟨fun j _ hj => h.1 j hj, h.2⟩⟩

theorem less_eq (a b : Int) : cmp_Less_int.f a b = some (decide (a < b)) := by
  simp [cmp_Less_int.f, cmp_isNaN_int.f]

theorem is_l0 (l : List Int) (hl : l.length ≤ 9223372036854775000) : ∀ i : Nat, i < l.length ∨ i = 0 →
    Ev (fun k => slices_IsSorted_int_int.l0 k l (i : Int)) (dec (∀ j : Nat, j < i → l.getD j 0 ≤ l.getD (j + 1) 0)) := by
  intro i
  induction i with
  | zero =>
    intro _
    refine Ev.step (fun k => rfl) ?_
    simp only [slices_IsSorted_int_int.l0]
    refine ev_neg (by omega) (ev_some (dec_true ?_).symm)
    intro j hj; omega
  | succ i ih =>
    intro hi
    have hi' : i + 1 < l.length := by omega
    have hw : wrap64 (((i + 1 : Nat) : Int) - 1) = (i : Int) := by rw [w64 (by omega) (by omega)]; omega
    refine Ev.step (fun k => rfl) ?_
    simp only [slices_IsSorted_int_int.l0, hw, rd_nat, less_eq, Option.bind_some]
    refine ev_pos (by omega) (ev_pos (by omega) (ev_pos (by omega) (ev_pos (by omega) (ev_pos (by omega) ?_))))
    by_cases hs : l.getD (i + 1) 0 < l.getD i 0
    · refine ev_pos (decide_eq_true hs) (ev_some (dec_false ?_).symm)
      intro h
      have := h i (by omega)
      omega
    · refine ev_neg (by simpa using hs) ?_
      refine ev_eq (dec_congr ?_) (ih (by omega))
      constructor
      · intro h j hj
        by_cases e : j = i
        · subst e; omega
        · exact h j (by omega)
      · intro h j hj
        exact h j (by omega)

theorem is_ev (l : List Int) (hl : l.length ≤ 9223372036854775000) : Ev (fun k => slices_IsSorted_int_int.f k l) (dec (∀ j : Nat, j + 1 < l.length → l.getD j 0 ≤ l.getD (j + 1) 0)) := by
  simp only [slices_IsSorted_int_int.f]
  by_cases h0 : l.length = 0
  · rw [show wrap64 ((l.length : Int) - 1) = -1 by rw [w64 (by omega) (by omega)]; omega]
    refine Ev.step (fun k => rfl) ?_
    simp only [slices_IsSorted_int_int.l0]
    refine ev_neg (by omega) (ev_some (dec_true ?_).symm)
    intro j hj; omega
  · rw [show wrap64 ((l.length : Int) - 1) = ((l.length - 1 : Nat) : Int) by rw [w64 (by omega) (by omega)]; omega]
    refine ev_eq (dec_congr ?_) (is_l0 l hl (l.length - 1) (by omega))
    exact ⟨fun h j hj => h j (by omega), fun h j hj => h j (by omega)⟩

theorem ii_ev (l : List Int) (hl : l.length ≤ 9223372036854775000) : Ev (fun k => impl_StickIn.f k l) (dec (Bnd l)) := by
  simp only [impl_StickIn.f]
  refine Ev.bind (ir_ev l hl) ?_
  by_cases h : (∀ j : Nat, j < l.length → 1 ≤ l.getD j 0 ∧ l.getD j 0 ≤ 60) ∧ 1 ≤ l.length ∧ l.length ≤ 9
  · refine ev_pos (dec_true h) (Ev.bind (is_ev l hl) (ev_some (dec_congr ?_)))
    exact ⟨fun s => ⟨h.2.1, h.2.2, h.1, s⟩, fun b => b.2.2.2⟩
  · refine ev_neg (by rw [dec_false h]; exact Bool.false_ne_true) (ev_some (dec_false ?_).symm)
    exact fun b => h ⟨b.2.2.1, b.1, b.2.1⟩

theorem si_l0 (l m : List Int) (hl : l.length ≤ 9223372036854775000) (hm : l.length = m.length) : ∀ d i : Nat, i + d = l.length → (∀ j : Nat, j < i → l.getD j 0 = m.getD j 0) →
    Ev (fun k => laws_sameInts.l0 k l m (i : Int)) (decide (l = m)) := by
  intro d
  induction d with
  | zero =>
    intro i hi hj
    refine Ev.step (fun k => rfl) ?_
    simp only [laws_sameInts.l0]
    refine ev_neg (by omega) (ev_some (decide_eq_true ?_).symm)
    apply List.ext_getElem hm
    intro j h1 h2
    have := hj j (by omega)
    simpa [List.getD_eq_getElem?_getD, h1, h2] using this
  | succ d ih =>
    intro i hi hj
    refine Ev.step (fun k => rfl) ?_
    have hw : wrap64 ((i : Int) + 1) = ((i + 1 : Nat) : Int) := by rw [w64 (by omega) (by omega)]; omega
    simp only [laws_sameInts.l0, hw, rd_nat]
    refine ev_pos (by omega) (ev_pos (by omega) (ev_pos (by omega) ?_))
    by_cases e : l.getD i 0 = m.getD i 0
    · refine ev_pos e (ih (i + 1) (by omega) ?_)
      intro j h
      by_cases x : j = i
      · rw [x]; exact e
      · exact hj j (by omega)
    · refine ev_neg e (ev_some (decide_eq_false ?_).symm)
      intro x; exact e (by rw [x])

theorem si_ev (l m : List Int) (hl : l.length ≤ 9223372036854775000) : Ev (fun k => laws_sameInts.f k l m) (decide (l = m)) := by
  simp only [laws_sameInts.f]
  by_cases h : (l.length : Int) = (m.length : Int)
  · exact ev_pos h (si_l0 l m hl (by omega) l.length 0 (by omega) (fun j hj => by omega))
  · refine ev_neg h (ev_some (decide_eq_false ?_).symm)
    intro x; exact h (by rw [x])

theorem xor_nat (a b : Nat) (ha : a < 2 ^ 62) (hb : b < 2 ^ 62) : Go.bits .xor .i64 (a : Int) (b : Int) = ((a ^^^ b : Nat) : Int) := by
  have ha' : a % 2 ^ 64 = a := Nat.mod_eq_of_lt (Nat.lt_of_lt_of_le ha (by decide))
  have hb' : b % 2 ^ 64 = b := Nat.mod_eq_of_lt (Nat.lt_of_lt_of_le hb (by decide))
  have hx : a ^^^ b < 2 ^ 62 := Nat.xor_lt_two_pow ha hb
  show IntKind.i64.wrap (((BitVec.ofInt 64 (a : Int) ^^^ BitVec.ofInt 64 (b : Int)).toNat : Nat) : Int) = _
  rw [BitVec.ofInt_natCast, BitVec.ofInt_natCast, BitVec.toNat_xor, BitVec.toNat_ofNat, BitVec.toNat_ofNat, ha', hb', IntKind.wrap_i64]
  have : (2 : Nat) ^ 62 = 4611686018427387904 := by decide
  omega
theorem xor_pos {a b : Int} (ha : 0 ≤ a) (hb : 0 ≤ b) (ha1 : a < 4611686018427387904) (hb1 : b < 4611686018427387904) : 0 ≤ Go.bits .xor .i64 a b := by
  obtain ⟨x, rfl⟩ := Int.eq_ofNat_of_zero_le ha
  obtain ⟨y, rfl⟩ := Int.eq_ofNat_of_zero_le hb
  have e : (2 : Nat) ^ 62 = 4611686018427387904 := by decide
  rw [xor_nat x y (by omega) (by omega)]
  exact Int.natCast_nonneg _
def Rdr (bs : List Int) : Prop := bs.length ≤ 2000 ∧ ∀ i : Int, 0 ≤ rd bs i ∧ rd bs i ≤ 255
theorem rdr_of {bs : List Int} (h : bs.length ≤ 2000) (hb : ∀ x ∈ bs, 0 ≤ x ∧ x ≤ 255) : Rdr bs := by
  refine ⟨h, fun i => ?_⟩
  unfold rd
  rw [List.getD_eq_getElem?_getD]
  by_cases g : i.toNat < bs.length
  · rw [List.getElem?_eq_getElem g]; exact hb _ (List.getElem_mem g)
  · rw [List.getElem?_eq_none (by omega)]; simp
theorem tmod_in {a n : Int} (ha : 0 ≤ a) (hn : 0 < n) : 0 ≤ Int.tmod a n ∧ Int.tmod a n < n := by
  rw [Int.tmod_eq_emod_of_nonneg ha]
  exact ⟨Int.emod_nonneg _ (by omega), Int.emod_lt_of_pos _ hn⟩
theorem pick_ev (bs : List Int) (p n : Int) (hr : Rdr bs) (h0 : 0 ≤ p) (h1 : p ≤ 1000000) (hn : n ≤ 1000000000) :
    ∃ r, Ev (fun k => spec_l6Rd_pick.f k bs p n) (r, p + 1) ∧ 0 ≤ r ∧ (1 ≤ n → r < n) ∧ (n < 1 → r = 0) := by
  have hw : wrap64 (p + 1) = p + 1 := w64 (by omega) (by omega)
  simp only [spec_l6Rd_pick.f, hw]
  by_cases c : n < 1
  · refine ⟨0, ev_pos c (Ev.step (fun k => rfl) ?_), by omega, by omega, fun _ => rfl⟩
    simp only [spec_l6Rd_pick.j0]
    exact ev_pos (by simp) (Ev.now _)
  · by_cases e : bs.length = 0
    · refine ⟨0, ev_neg c (Ev.step (fun k => rfl) ?_), by omega, by omega, by omega⟩
      simp only [spec_l6Rd_pick.j0]
      exact ev_pos (by simp [e]) (Ev.now _)
    · have hw2 : wrap64 (p + 1 - 1) = p := by rw [w64 (by omega) (by omega)]; omega
      have hnz : ¬ ((bs.length : Int) == 0) = true := by simp; exact fun h => e (by rw [h]; rfl)
      by_cases g : p < bs.length
      · have b := hr.2 p
        have hm := tmod_in b.1 (show 0 < n by omega)
        refine ⟨Int.tmod (rd bs p) n, ev_neg c (Ev.step (fun k => rfl) ?_), hm.1, fun _ => hm.2, by omega⟩
        simp only [spec_l6Rd_pick.j0, hw2]
        rw [w64 (n := rd bs p) (by omega) (by omega)]
        exact ev_neg hnz (ev_pos g (ev_pos h0 (ev_neg (by omega) (Ev.now _))))
      · have hl : 0 < (bs.length : Int) := by omega
        have hl2 := hr.1
        have m1 := tmod_in h0 hl
        have m2 := tmod_in (show 0 ≤ p * 7 + 3 by omega) hl
        have b1 := hr.2 (Int.tmod p bs.length)
        have b2 := hr.2 (Int.tmod (p * 7 + 3) bs.length)
        have q0 : 0 ≤ Int.tdiv p bs.length := Int.tdiv_nonneg h0 (by omega)
        have q1 : Int.tdiv p bs.length ≤ p := by
          rw [Int.tdiv_eq_ediv_of_nonneg h0]; exact Int.ediv_le_self _ h0
        generalize hA : rd bs (Int.tmod p bs.length) = A at b1
        generalize hB : rd bs (Int.tmod (p * 7 + 3) bs.length) = B at b2
        generalize hC : Int.tdiv p bs.length = C at q0 q1
        have hX : wrap64 (wrap64 (wrap64 (wrap64 A * 131) + wrap64 (wrap64 B * 1117)) + wrap64 (p * 29)) = A * 131 + B * 1117 + p * 29 := by
          unfold wrap64; omega
        have hY : wrap64 ((A * 131 + B * 1117 + p * 29) + wrap64 (wrap64 C * 53)) = A * 131 + B * 1117 + p * 29 + C * 53 := by
          unfold wrap64; omega
        have hD : wrap64 (Int.tdiv (A * 131 + B * 1117 + p * 29 + C * 53) 64) = (A * 131 + B * 1117 + p * 29 + C * 53) / 64 := by
          rw [Int.tdiv_eq_ediv_of_nonneg (by omega)]; unfold wrap64; omega
        have hx := xor_pos (a := A * 131 + B * 1117 + p * 29 + C * 53) (b := (A * 131 + B * 1117 + p * 29 + C * 53) / 64) (by omega) (by omega) (by omega) (by omega)
        have hm := tmod_in hx (show 0 < n by omega)
        refine ⟨_, ev_neg c (Ev.step (fun k => rfl) ?_), hm.1, fun _ => hm.2, by omega⟩
        simp only [spec_l6Rd_pick.j0, hw2, w64 (n := p * 7) (by omega) (by omega), w64 (n := p * 7 + 3) (by omega) (by omega), hA, hB, hC, hX, hY, hD]
        exact ev_neg hnz (ev_neg g (ev_neg (by omega) (ev_pos m1.1 (ev_pos m1.2 (ev_pos m2.1 (ev_pos m2.2 (ev_neg (by omega) (Ev.now _))))))))
theorem open_ev (l : List Int) (hb : ∀ x ∈ l, 0 ≤ x ∧ x ≤ 255) : ∃ bs, spec_l6Open.f l = some (bs, 0) ∧ Rdr bs := by
  unfold spec_l6Open.f
  by_cases c : (l.length : Int) > 2000
  · refine ⟨l.take 2000, ?_, rdr_of (by simp; omega) (fun x hx => hb x (List.mem_of_mem_take hx))⟩
    rw [if_pos c, if_pos (by omega)]
  · exact ⟨l, by rw [if_neg c], rdr_of (by omega) hb⟩
theorem bytes_in {l : List Int} (h : ∀ x ∈ l, (Lit.int .u8 x).wf = true) : ∀ x ∈ l, 0 ≤ x ∧ x ≤ 255 := by
  intro x hx
  have := h x hx
  simp [Lit.wf, IntKind.min, IntKind.max, IntKind.bits, IntKind.signed] at this
  omega

theorem length_ev (bs : List Int) (p : Int) (hr : Rdr bs) (h0 : 0 ≤ p) (h1 : p ≤ 100000) : ∃ r, Ev (fun k => spec_l91Length.f k bs p) (r, p + 3) ∧ 1 ≤ r ∧ r ≤ 60 := by
  simp only [spec_l91Length.f]
  obtain ⟨r1, e1, b1, c1, _⟩ := pick_ev bs p 12 hr (by omega) (by omega) (by omega)
  obtain ⟨r2, e2, b2, c2, _⟩ := pick_ev bs (p + 1) 6 hr (by omega) (by omega) (by omega)
  obtain ⟨r3, e3, b3, c3, _⟩ := pick_ev bs (p + 1 + 1) 48 hr (by omega) (by omega) (by omega)
  have c1 := c1 (by omega)
  have c2 := c2 (by omega)
  have c3 := c3 (by omega)
  have hd : Int.tdiv r2 5 = r2 / 5 := Int.tdiv_eq_ediv_of_nonneg b2
  have hq : wrap64 (Int.tdiv r2 5) = 0 ∨ wrap64 (Int.tdiv r2 5) = 1 := by rw [hd]; unfold wrap64; omega
  refine ⟨wrap64 (wrap64 (1 + r1) + wrap64 (wrap64 (Int.tdiv r2 5) * r3)), Ev.bind e1 (Ev.bind e2 (Ev.bind e3 (ev_some ?_))), ?_⟩
  · show (_, p + 1 + 1 + 1) = (_, p + 3)
    rw [show p + 1 + 1 + 1 = p + 3 by omega]
  · rcases hq with h | h
    · rw [h]; unfold wrap64; omega
    · rw [h]; unfold wrap64; omega

def stp (x : Int) (out : List Int) : Nat → Nat
  | 0 => 0
  | n + 1 => if x < out.getD n 0 then stp x out n else n + 1
theorem stp_le (x : Int) (out : List Int) : ∀ n, stp x out n ≤ n
  | 0 => Nat.le_refl _
  | n + 1 => by
    unfold stp
    split
    · exact Nat.le_succ_of_le (stp_le x out n)
    · exact Nat.le_refl _
def insA (out : List Int) (x : Int) : List Int := out.take (stp x out out.length) ++ [x] ++ out.drop (stp x out out.length)
def srt (a : List Int) : List Int := a.foldl insA []
theorem insA_length (out : List Int) (x : Int) : (insA out x).length = out.length + 1 := by
  have := stp_le x out out.length
  unfold insA; simp; omega
theorem l1s_l1 (a out : List Int) (i : Nat) (hi : i < a.length) (ha : a.length ≤ 100000) (ho : out.length ≤ 100000) (r : List Int)
    (h : Ev (fun k => spec_l1Sort.l0 k a (insA out (a.getD i 0)) ((i + 1 : Nat) : Int)) r) :
    ∀ n : Nat, n ≤ out.length → stp (a.getD i 0) out n = stp (a.getD i 0) out out.length → Ev (fun k => spec_l1Sort.l1 k a out (i : Int) (n : Int)) r := by
  have hw : wrap64 ((i : Int) + 1) = ((i + 1 : Nat) : Int) := by rw [w64 (by omega) (by omega)]; omega
  intro n
  induction n with
  | zero =>
    intro hn hs
    refine Ev.step (fun k => rfl) ?_
    simp only [spec_l1Sort.l1, Option.bind_some, hw, rd_nat, List.nil_append, Int.toNat_natCast]
    have e : out.take 0 ++ [a.getD i 0] ++ out.drop 0 = insA out (a.getD i 0) := by
      unfold insA; rw [← hs]; rfl
    rw [e]
    exact ev_neg (by omega) (ev_pos (by omega) (ev_pos (by omega) (ev_pos (by simp) (ev_pos (by omega) (ev_pos (by omega) (ev_pos (by simp) (ev_pos (by simp; omega) h)))))))
  | succ n ih =>
    intro hn hs
    have hw1 : wrap64 (((n + 1 : Nat) : Int) - 1) = (n : Int) := by rw [w64 (by omega) (by omega)]; omega
    refine Ev.step (fun k => rfl) ?_
    simp only [spec_l1Sort.l1, Option.bind_some, hw, hw1, rd_nat, List.nil_append, Int.toNat_natCast]
    refine ev_pos (by omega) (ev_pos (by omega) (ev_pos (by omega) (ev_pos (by omega) (ev_pos (by omega) ?_))))
    by_cases c : a.getD i 0 < out.getD n 0
    · refine ev_pos c (ih (by omega) ?_)
      rw [← hs, stp, if_pos c]
    · have e : out.take (n + 1) ++ [a.getD i 0] ++ out.drop (n + 1) = insA out (a.getD i 0) := by
        unfold insA; rw [← hs, stp, if_neg c]
      rw [e]
      exact ev_neg c (ev_pos (by omega) (ev_pos (by omega) (ev_pos (by simp; omega) (ev_pos (by simp; omega) (ev_pos (by simp; omega) h)))))
theorem l1s_l0 (a : List Int) (ha : a.length ≤ 100000) : ∀ d i : Nat, ∀ out : List Int, i + d = a.length → out.length = i → Ev (fun k => spec_l1Sort.l0 k a out (i : Int)) ((a.drop i).foldl insA out) := by
  intro d
  induction d with
  | zero =>
    intro i out hi ho
    refine Ev.step (fun k => rfl) ?_
    simp only [spec_l1Sort.l0]
    rw [List.drop_of_length_le (by omega)]
    exact ev_neg (by omega) (Ev.now _)
  | succ d ih =>
    intro i out hi ho
    refine Ev.step (fun k => rfl) ?_
    simp only [spec_l1Sort.l0]
    rw [List.drop_eq_getElem_cons (by omega), List.foldl_cons]
    have e : a[i]'(by omega) = a.getD i 0 := by simp [List.getD_eq_getElem?_getD, show i < a.length by omega]
    rw [e]
    refine ev_pos (by omega) ?_
    have h := ih (i + 1) (insA out (a.getD i 0)) (by omega) (by rw [insA_length]; omega)
    exact l1s_l1 a out i (by omega) ha (by omega) _ h out.length (Nat.le_refl _) rfl
theorem l1s_ev (a : List Int) (ha : a.length ≤ 100000) : Ev (fun k => spec_l1Sort.f k a) (srt a) := by
  simp only [spec_l1Sort.f]
  exact l1s_l0 a ha a.length 0 [] (by omega) rfl
theorem foldl_insA_length (a : List Int) : ∀ out : List Int, (a.foldl insA out).length = out.length + a.length := by
  induction a with
  | nil => intro out; simp
  | cons x a ih => intro out; rw [List.foldl_cons, ih, insA_length, List.length_cons]; omega
theorem srt_length (a : List Int) : (srt a).length = a.length := by unfold srt; rw [foldl_insA_length]; simp

theorem sticksq_l0 (bs : List Int) (hr : Rdr bs) (n : Int) (hn : n ≤ 1000) : ∀ d i : Nat, ∀ out : List Int, ∀ p : Int, (n - i).toNat = d → i ≤ 1000 → out.length = i → 0 ≤ p → p ≤ 10 + 3 * i →
    ∃ m q, Ev (fun k => spec_l91Sticks.l0 k n out (i : Int) bs p) (m, q) ∧ m.length ≤ 1001 + i ∧ m.length ≤ (if n ≤ i then (i : Int) else n) + 1 ∧ 0 ≤ q ∧ q ≤ p + 1 + 3 * d := by
  intro d
  induction d with
  | zero =>
    intro i out p hd hi ho hp0 hp1
    obtain ⟨r, er, r0, r1, _⟩ := pick_ev bs p 40 hr hp0 (by omega) (by omega)
    have hl := srt_length out
    have hs := l1s_ev out (by omega)
    rw [if_pos (by omega)]
    by_cases c0 : r = 0
    · refine ⟨srt out ++ [1], p + 1, Ev.step (fun k => rfl) ?_, by simp; omega, by simp; omega, by omega, by omega⟩
      simp only [spec_l91Sticks.l0]
      exact ev_neg (by omega) (Ev.bind hs (Ev.bind er (ev_pos c0 (ev_pos (by omega) (Ev.now _)))))
    · by_cases c1 : r = 1
      · refine ⟨[0] ++ srt out, p + 1, Ev.step (fun k => rfl) ?_, by simp; omega, by simp; omega, by omega, by omega⟩
        simp only [spec_l91Sticks.l0, Option.bind_some]
        exact ev_neg (by omega) (Ev.bind hs (Ev.bind er (ev_neg c0 (ev_pos c1 (ev_pos (by simp; omega) (Ev.now _))))))
      · refine ⟨srt out, p + 1, Ev.step (fun k => rfl) ?_, by omega, by omega, by omega, by omega⟩
        simp only [spec_l91Sticks.l0]
        exact ev_neg (by omega) (Ev.bind hs (Ev.bind er (ev_neg c0 (ev_neg c1 (Ev.now _)))))
  | succ d ih =>
    intro i out p hd hi ho hp0 hp1
    obtain ⟨x, ex, _⟩ := length_ev bs p hr hp0 (by omega)
    have hw : wrap64 ((i : Int) + 1) = ((i + 1 : Nat) : Int) := by rw [w64 (by omega) (by omega)]; omega
    obtain ⟨m, q, e, h, h2, h4, h5⟩ := ih (i + 1) (out ++ [x]) (p + 3) (by omega) (by omega) (by simp [ho]) (by omega) (by omega)
    refine ⟨m, q, Ev.step (fun k => rfl) ?_, by omega, ?_, h4, by omega⟩
    · simp only [spec_l91Sticks.l0, hw]
      exact ev_pos (by omega) (Ev.bind ex (ev_pos (by omega) e))
    · rw [if_neg (by omega)]
      split at h2 <;> omega
theorem sticksq_ev (bs : List Int) (hr : Rdr bs) (p n : Int) (hp0 : 0 ≤ p) (hp : p ≤ 10) (hn0 : 0 ≤ n) (hn : n ≤ 900) : ∃ m q, Ev (fun k => spec_l91Sticks.f k bs p n) (m, q) ∧ m.length ≤ n + 1 ∧ 0 ≤ q ∧ q ≤ 10000 := by
  simp only [spec_l91Sticks.f]
  obtain ⟨m, q, e, h, h2, h4, h5⟩ := sticksq_l0 bs hr n (by omega) (n - 0).toNat 0 [] p (by simp) (by omega) rfl hp0 (by omega)
  refine ⟨m, q, e, ?_, h4, by omega⟩
  split at h2 <;> omega
theorem bundle_evq (bs : List Int) (hr : Rdr bs) (p : Int) (hp0 : 0 ≤ p) (hp : p ≤ 5) : ∃ m q, Ev (fun k => spec_l91Bundle.f k bs p) (m, q) ∧ m.length ≤ 10 ∧ 0 ≤ q ∧ q ≤ 10000 := by
  simp only [spec_l91Bundle.f]
  obtain ⟨r, er, r0, r1, _⟩ := pick_ev bs p 9 hr hp0 (by omega) (by omega)
  have r1 := r1 (by omega)
  have hw : wrap64 (1 + r) = 1 + r := w64 (by omega) (by omega)
  obtain ⟨m, q, e, h, h4, h5⟩ := sticksq_ev bs hr (p + 1) (1 + r) (by omega) (by omega) (by omega) (by omega)
  refine ⟨m, q, Ev.bind er ?_, by omega, h4, h5⟩
  rw [hw]
  exact Ev.bind e (Ev.now _)

def Rul (l : List Int) : Prop := (∀ j : Nat, j < l.length → 1 ≤ l.getD j 0 ∧ l.getD j 0 ≤ 60) ∧ 1 ≤ l.length ∧ l.length ≤ 9
theorem rul_mem {l : List Int} : Rul l ↔ (∀ x ∈ l, 1 ≤ x ∧ x ≤ 60) ∧ 1 ≤ l.length ∧ l.length ≤ 9 := by
  refine ⟨fun h => ⟨fun x hx => ?_, h.2⟩, fun h => ⟨fun j hj => ?_, h.2⟩⟩
  · obtain ⟨j, hj, rfl⟩ := List.getElem_of_mem hx
    have := h.1 j hj
    rwa [List.getD_eq_getElem?_getD, List.getElem?_eq_getElem hj] at this
  · rw [List.getD_eq_getElem?_getD, List.getElem?_eq_getElem hj]
    exact h.1 _ (List.getElem_mem hj)
theorem rul_perm {l m : List Int} (p : l.Perm m) : Rul l ↔ Rul m := by
  rw [rul_mem, rul_mem, p.length_eq]
  exact ⟨fun h => ⟨fun x hx => h.1 x (p.mem_iff.mpr hx), h.2⟩, fun h => ⟨fun x hx => h.1 x (p.mem_iff.mp hx), h.2⟩⟩
theorem pw_get {l : List Int} (h : l.Pairwise (· ≤ ·)) {i j : Nat} (hij : i ≤ j) (hj : j < l.length) : l.getD i 0 ≤ l.getD j 0 := by
  rw [List.getD_eq_getElem?_getD, List.getD_eq_getElem?_getD, List.getElem?_eq_getElem hj, List.getElem?_eq_getElem (by omega : i < l.length)]
  rcases Nat.lt_or_ge i j with c | c
  · exact List.pairwise_iff_getElem.mp h i j _ _ c
  · have : i = j := by omega
    subst this
    exact Int.le_refl _
theorem pw_of {l : List Int} (h : ∀ j : Nat, j + 1 < l.length → l.getD j 0 ≤ l.getD (j + 1) 0) : l.Pairwise (· ≤ ·) := by
  have H : ∀ d i : Nat, i + d < l.length → l.getD i 0 ≤ l.getD (i + d) 0 := by
    intro d
    induction d with
    | zero => intro i _; exact Int.le_refl _
    | succ d ih => intro i hi; exact Int.le_trans (ih i (by omega)) (h (i + d) (by omega))
  rw [List.pairwise_iff_getElem]
  intro i j hi hj hij
  have := H (j - i) i (by omega)
  rw [show i + (j - i) = j by omega] at this
  rwa [List.getD_eq_getElem?_getD, List.getD_eq_getElem?_getD, List.getElem?_eq_getElem hi, List.getElem?_eq_getElem hj] at this
theorem bnd_iff {l : List Int} : Bnd l ↔ Rul l ∧ l.Pairwise (· ≤ ·) :=
  ⟨fun h => ⟨⟨h.2.2.1, h.1, h.2.1⟩, pw_of h.2.2.2⟩, fun h => ⟨h.1.2.1, h.1.2.2, h.1.1, fun j hj => pw_get h.2 (by omega) hj⟩⟩
theorem stp_spec (x : Int) (out : List Int) : ∀ n, (stp x out n = 0 ∨ out.getD (stp x out n - 1) 0 ≤ x) ∧ ∀ j, stp x out n ≤ j → j < n → x < out.getD j 0
  | 0 => ⟨.inl rfl, fun j _ h => absurd h (by omega)⟩
  | n + 1 => by
    unfold stp
    split
    · next h =>
      refine ⟨(stp_spec x out n).1, fun j h1 h2 => ?_⟩
      rcases Nat.lt_or_ge j n with c | c
      · exact (stp_spec x out n).2 j h1 c
      · have : j = n := by omega
        subst this; exact h
    · next h => exact ⟨.inr (by rw [Nat.add_sub_cancel]; omega), fun j h1 h2 => by omega⟩
theorem insA_perm (out : List Int) (x : Int) : (insA out x).Perm (out ++ [x]) := by
  unfold insA
  have h1 : (List.take (stp x out out.length) out ++ [x] ++ List.drop (stp x out out.length) out).Perm (List.take (stp x out out.length) out ++ List.drop (stp x out out.length) out ++ [x]) := by
    rw [List.append_assoc, List.append_assoc]
    exact List.Perm.append_left _ List.perm_append_comm
  rwa [List.take_append_drop] at h1
theorem insA_sorted (out : List Int) (x : Int) (h : out.Pairwise (· ≤ ·)) : (insA out x).Pairwise (· ≤ ·) := by
  unfold insA
  have hs := stp_spec x out out.length
  have hl := stp_le x out out.length
  generalize stp x out out.length = s at hs hl
  have ht : ∀ a ∈ out.take s, a ≤ x := by
    intro a ha
    obtain ⟨j, hj, rfl⟩ := List.getElem_of_mem ha
    rw [List.length_take] at hj
    rcases hs.1 with c | c
    · omega
    · have := pw_get h (show j ≤ s - 1 by omega) (by omega)
      rw [List.getD_eq_getElem?_getD, List.getElem?_eq_getElem (by omega : j < out.length)] at this
      rw [List.getElem_take]
      exact Int.le_trans this c
  have hd : ∀ a ∈ out.drop s, x ≤ a := by
    intro a ha
    obtain ⟨j, hj, rfl⟩ := List.getElem_of_mem ha
    rw [List.length_drop] at hj
    have := hs.2 (s + j) (by omega) (by omega)
    rw [List.getD_eq_getElem?_getD, List.getElem?_eq_getElem (by omega : s + j < out.length)] at this
    rw [List.getElem_drop]
    exact Int.le_of_lt this
  have hp : (out.take s ++ out.drop s).Pairwise (· ≤ ·) := by rw [List.take_append_drop]; exact h
  rw [List.pairwise_append] at hp
  rw [List.pairwise_append, List.pairwise_append]
  refine ⟨⟨hp.1, List.pairwise_singleton .., fun a ha b hb => ?_⟩, hp.2.1, fun a ha b hb => ?_⟩
  · rw [List.mem_singleton] at hb; subst hb; exact ht a ha
  · rw [List.mem_append, List.mem_singleton] at ha
    rcases ha with ha | rfl
    · exact hp.2.2 a ha b hb
    · exact hd b hb
theorem foldl_insA (a : List Int) : ∀ out : List Int, (a.foldl insA out).Perm (out ++ a) ∧ (out.Pairwise (· ≤ ·) → (a.foldl insA out).Pairwise (· ≤ ·)) := by
  induction a with
  | nil => intro out; simp
  | cons x a ih =>
    intro out
    rw [List.foldl_cons]
    refine ⟨?_, fun h => (ih _).2 (insA_sorted out x h)⟩
    have := (ih (insA out x)).1.trans (List.Perm.append_right a (insA_perm out x))
    simpa using this
theorem srt_perm (a : List Int) : (srt a).Perm a := by
  show (a.foldl insA []).Perm a
  simpa using (foldl_insA a []).1
theorem srt_sorted (a : List Int) : (srt a).Pairwise (· ≤ ·) := (foldl_insA a []).2 List.Pairwise.nil
theorem srt_eq {a b : List Int} (p : a.Perm b) (h : b.Pairwise (· ≤ ·)) : srt a = b :=
  ((srt_perm a).trans p).eq_of_pairwise (fun _ _ _ _ h1 h2 => Int.le_antisymm h1 h2) (srt_sorted a) h
theorem ms_eq (a : List Int) : (a.mergeSort fun x y => decide (x ≤ y)) = srt a := by
  refine (srt_eq (List.mergeSort_perm a _).symm ?_).symm
  have := List.pairwise_mergeSort (le := fun x y : Int => decide (x ≤ y)) (fun a b c h1 h2 => by simp at *; omega) (fun a b => by simp; omega) a
  simpa using this
theorem srt_id {a : List Int} (h : a.Pairwise (· ≤ ·)) : srt a = a := srt_eq (List.Perm.refl a) h
theorem bnd_srt (a : List Int) : Bnd (srt a) ↔ Rul a := by
  rw [bnd_iff, rul_perm (srt_perm a)]
  exact ⟨fun h => h.1, fun h => ⟨h, srt_sorted a⟩⟩

theorem isort_ev (l : List Int) (hl : l.length ≤ 9223372036854775000) : Ev (fun k => impl_StickSort.f k l) (if dec (Rul l) = true then (srt l, true) else ([], false)) := by
  simp only [impl_StickSort.f, slices_Clone_int_int.f, slices_Sort_int_int.f]
  have hir : Ev (fun k => impl_isRuler.f k l) (dec (Rul l)) := ir_ev l hl
  refine Ev.bind hir ?_
  by_cases h : Rul l
  · have h2 := h.2
    refine ev_eq (if_pos (dec_true h)).symm (ev_pos (dec_true h) ?_)
    simp only [if_pos (show l.length ≤ 17592186044416 by omega), Option.bind_some, ms_eq]
    exact Ev.now _
  · have e : ¬ dec (Rul l) = true := by rw [dec_false h]; simp
    exact ev_eq (if_neg e).symm (ev_neg e (Ev.now _))

noncomputable def putr (l : List Int) (x : Int) : List Int × Bool := if dec (Bnd l) = true then (if dec (Rul (l ++ [x])) = true then (srt (l ++ [x]), true) else ([], false)) else ([], false)
theorem iput_ev (l : List Int) (x : Int) (hl : l.length ≤ 9223372036854775000) : Ev (fun k => impl_StickPut.f k l x) (putr l x) := by
  simp only [impl_StickPut.f, putr]
  refine Ev.bind (ii_ev l hl) ?_
  by_cases h : Bnd l
  · have h2 := h.2.1
    refine ev_eq (if_pos (dec_true h)).symm (ev_pos (dec_true h) ?_)
    simp only [slices_Clone_int_int.f, if_pos (show l.length ≤ 17592186044416 by omega), Option.bind_some]
    exact ev_pos (by omega) (Ev.bind (isort_ev (l ++ [x]) (by simp; omega)) (Ev.now _))
  · have e : ¬ dec (Bnd l) = true := by rw [dec_false h]; simp
    exact ev_eq (if_neg e).symm (ev_neg e (Ev.now _))
theorem put_len (l : List Int) (x : Int) : (putr l x).1.length ≤ 1000000 := by
  unfold putr
  by_cases h : Bnd l
  · rw [if_pos (dec_true h)]
    by_cases g : Rul (l ++ [x])
    · rw [if_pos (dec_true g)]; have := g.2.2; rw [srt_length]; omega
    · rw [if_neg (by rw [dec_false g]; simp)]; simp
  · rw [if_neg (by rw [dec_false h]; simp)]; simp

noncomputable def dropr (l : List Int) (a : Int) : List Int × Bool := if dec (Bnd l ∧ 0 ≤ a ∧ a < l.length ∧ l.length ≠ 1) = true then (impl_StickDropD.res l a.toNat, true) else ([], false)
theorem dropr_no {l : List Int} {a : Int} (h : ¬ (Bnd l ∧ 0 ≤ a ∧ a < l.length ∧ l.length ≠ 1)) : dropr l a = ([], false) := by
  unfold dropr; rw [if_neg (by rw [dec_false h]; simp)]
theorem dropr_yes {l : List Int} {a : Int} (h : Bnd l ∧ 0 ≤ a ∧ a < l.length ∧ l.length ≠ 1) : dropr l a = (impl_StickDropD.res l a.toNat, true) := by
  unfold dropr; rw [if_pos (dec_true h)]
theorem idrop_ev (l : List Int) (a : Int) (hl : l.length ≤ 9223372036854775000) : Ev (fun k => impl_StickDrop.f k l a) (dropr l a) := by
  simp only [impl_StickDrop.f]
  refine Ev.bind (ii_ev l hl) ?_
  by_cases h : Bnd l
  · have h2 := h.2.1
    refine ev_pos (dec_true h) ?_
    by_cases c1 : a < 0
    · rw [dropr_no (fun c => by omega)]; exact ev_pos c1 (Ev.now _)
    · refine ev_neg c1 ?_
      by_cases c2 : a ≥ (l.length : Int)
      · rw [dropr_no (fun c => by omega)]; exact ev_pos c2 (Ev.now _)
      · refine ev_neg c2 ?_
        by_cases c3 : (l.length : Int) = 1
        · rw [dropr_no (fun c => by omega)]; exact ev_pos c3 (Ev.now _)
        · rw [dropr_yes ⟨h, by omega, by omega, by omega⟩]
          exact ev_neg c3 (ev_pos (by omega) (Ev.now _))
  · rw [dropr_no (fun c => h c.1)]
    exact ev_neg (by rw [dec_false h]; simp) (Ev.now _)
theorem drop_sub (l : List Int) (i : Nat) (hi : i < l.length) : List.Sublist (impl_StickDropD.res l i) l ∧ (impl_StickDropD.res l i).length + 1 = l.length := by
  unfold impl_StickDropD.res
  refine ⟨?_, by simp; omega⟩
  have := List.Sublist.append (List.Sublist.refl (l.take i)) (List.drop_sublist_drop_left l (show i ≤ i + 1 by omega))
  rwa [List.take_append_drop] at this
theorem bnd_res {l : List Int} (h : Bnd l) (i : Nat) (hi : i < l.length) (h1 : l.length ≠ 1) : Bnd (impl_StickDropD.res l i) := by
  obtain ⟨hs, hl⟩ := drop_sub l i hi
  rw [bnd_iff, rul_mem] at h ⊢
  have h2 := h.1.2
  exact ⟨⟨fun x hx => h.1.1 x (hs.subset hx), by omega, by omega⟩, h.2.sublist hs⟩

theorem done_ev (m : List Int) (hm : m.length ≤ 100000) : Ev (fun k => spec_l1Done.f k m) (if dec (Bnd m) = true then (m, true) else ([], false)) := by
  simp only [spec_l1Done.f]
  refine Ev.bind (sb_ev _ (by omega)) ?_
  by_cases h : Bnd m
  · exact ev_eq (if_pos (dec_true h)).symm (ev_pos (dec_true h) (Ev.now _))
  · have e : ¬ dec (Bnd m) = true := by rw [dec_false h]; simp
    exact ev_eq (if_neg e).symm (ev_neg e (Ev.now _))
theorem sdrop_ev (l : List Int) (a : Int) (hl : l.length ≤ 9223372036854775000) : Ev (fun k => spec_StickDrop.f k l a) (dropr l a) := by
  simp only [spec_StickDrop.f, Option.bind_some, List.nil_append, List.length_nil, Nat.zero_add]
  refine Ev.bind (sb_ev l hl) ?_
  by_cases h : Bnd l
  · have h1 := h.1
    have h2 := h.2.1
    refine ev_pos (dec_true h) ?_
    simp only [l6In_eq, Option.bind_some]
    rw [w64 (n := (l.length : Int) - 1) (by omega) (by omega)]
    by_cases c : 0 ≤ a ∧ a ≤ (l.length : Int) - 1
    · refine ev_pos (by simp; omega) ?_
      have hw : wrap64 (a + 1) = a + 1 := w64 (by omega) (by omega)
      have ht : (a + 1).toNat = a.toNat + 1 := by omega
      rw [hw, ht]
      obtain ⟨hs, hl2⟩ := drop_sub l a.toNat (by omega)
      unfold impl_StickDropD.res at hs hl2
      refine ev_pos c.1 (ev_pos (by omega) (ev_pos (by simp; omega) (ev_pos (by omega) (ev_pos (by omega) (ev_pos (by simp; omega) (Ev.bind (done_ev _ (by omega)) ?_))))))
      by_cases c1 : l.length = 1
      · rw [dropr_no (fun q => by omega)]
        have e : ¬ dec (Bnd (l.take a.toNat ++ l.drop (a.toNat + 1))) = true := by
          rw [dec_false (fun q : Bnd _ => by have := q.1; omega)]; simp
        rw [if_neg e]; exact Ev.now _
      · rw [dropr_yes ⟨h, by omega, by omega, c1⟩]
        have e : dec (Bnd (l.take a.toNat ++ l.drop (a.toNat + 1))) = true := dec_true (bnd_res h a.toNat (by omega) c1)
        rw [if_pos e]; exact Ev.now _
    · rw [dropr_no (fun q => by omega)]
      exact ev_neg (by simp; omega) (Ev.now _)
  · rw [dropr_no (fun c => h c.1)]
    exact ev_neg (by rw [dec_false h]; simp) (Ev.now _)

theorem FnDrop : laws_FnDrop.Pure := by
  intro l h1 h2 hw
  apply Ev.rounds
  simp only [laws_FnDrop.f, spec_DrawStickDrop.f]
  by_cases c : (l.length : Int) > 1048576
  · exact ev_pos c (Ev.now _)
  · obtain ⟨bs, ho, hr⟩ := open_ev l (bytes_in hw)
    obtain ⟨m, q, e, h3, hq⟩ := bundle_evq bs hr 0 (by omega) (by omega)
    obtain ⟨a, ea, a0, a1, _⟩ := pick_ev bs q 24 hr hq.1 (by omega) (by omega)
    have a1 := a1 (by omega)
    have hd : 0 ≤ Int.tdiv a 23 ∧ Int.tdiv a 23 ≤ 1 := by rw [Int.tdiv_eq_ediv_of_nonneg a0]; omega
    have hb : wrap64 ((m.length : Int) + wrap64 (Int.tdiv a 23)) ≤ 1000 := by rw [w64 (n := Int.tdiv a 23) (by omega) (by omega), w64 (by omega) (by omega)]; omega
    obtain ⟨b, eb, _⟩ := pick_ev bs (q + 1) _ hr (by omega) (by omega) (Int.le_trans hb (by omega))
    obtain ⟨d, ed, _⟩ := pick_ev bs (q + 1 + 1) 24 hr (by omega) (by omega) (by omega)
    simp only [ho, Option.bind_some]
    refine ev_neg c (Ev.bind (Ev.bind e (Ev.bind ea (Ev.bind eb (Ev.bind ed (Ev.now _))))) ?_)
    dsimp only
    generalize wrap64 (b - wrap64 (Int.tdiv d 23)) = x
    have hlen : (dropr m x).1.length ≤ 1000 := by
      by_cases h : Bnd m ∧ 0 ≤ x ∧ x < m.length ∧ m.length ≠ 1
      · rw [dropr_yes h]; have := (drop_sub m x.toNat (by omega)).2; dsimp only; omega
      · rw [dropr_no h]; simp
    refine Ev.bind (idrop_ev m x (by omega)) (Ev.bind (sdrop_ev m x (by omega)) (ev_pos (by simp) (Ev.bind (si_ev _ _ (by omega)) (ev_pos (by simp) (Ev.step (fun k => rfl) ?_)))))
    simp only [laws_FnDrop.j0]
    by_cases h : Bnd m ∧ 0 ≤ x ∧ x < m.length ∧ m.length ≠ 1
    · obtain ⟨i, rfl⟩ : ∃ i : Nat, x = (i : Int) := ⟨x.toNat, by omega⟩
      rw [dropr_yes h, Int.toNat_natCast]
      have hi : i < m.length := by omega
      have hbr := bnd_res h.1 i hi h.2.2.2
      have hp : (impl_StickDropD.res m i ++ [m.getD i 0]).Perm m := by
        unfold impl_StickDropD.res
        have e1 : m.take i ++ (m.getD i 0 :: m.drop (i + 1)) = m := by rw [← drop_cons m i hi, List.take_append_drop]
        have e2 : (m.take i ++ m.drop (i + 1) ++ [m.getD i 0]).Perm (m.take i ++ (m.getD i 0 :: m.drop (i + 1))) := by
          rw [List.append_assoc]
          exact List.Perm.append_left _ (List.perm_append_singleton _ _)
        rwa [e1] at e2
      have hm := bnd_iff.mp h.1
      have hput : putr (impl_StickDropD.res m i) (m.getD i 0) = (m, true) := by
        unfold putr
        rw [if_pos (dec_true hbr), if_pos (dec_true ((rul_perm hp).mpr hm.1)), srt_eq hp hm.2]
      have hl := (drop_sub m i hi).2
      have ip := iput_ev (impl_StickDropD.res m i) (m.getD i 0) (by omega)
      rw [hput] at ip
      rw [rd_nat]
      exact ev_neg (by simp) (ev_pos (by omega) (ev_pos (by omega) (Ev.bind ip (ev_pos rfl (Ev.bind (si_ev m m (by omega)) (ev_some (by simp)))))))
    · rw [dropr_no h]
      exact ev_pos (by simp) (ev_pos (by simp) (Ev.bind (si_ev _ _ (by simp)) (ev_some (by simp))))

end Go.Proofs.Ytagcakhpjjbilaa.Pure
