/- The pure statement of FnMany: for every input the law answers true; no condition. -/
import Derived.Test.YtagcakhpjjbilaaQFnManyx5
namespace Go.Proofs.Ytagcakhpjjbilaa.Pure
open Go.RowKit Go.Proofs.Ytagcakhpjjbilaa.QFnMany Go.Proofs.YtagcakhpjjbilaaW.PrintWords Go.Proofs.YtagcakhpjjbilaaW.PrintLast Go.Proofs.YtagcakhpjjbilaaW.PrintMore

theorem ev_pos {α : Type} {c : Prop} [Decidable c] {A B : Nat → Option α} {r : α} (h : c) (e : Ev A r) : Ev (fun k => if c then A k else B k) r := by
  simpa only [if_pos h] using e
theorem ev_neg {α : Type} {c : Prop} [Decidable c] {A B : Nat → Option α} {r : α} (h : ¬ c) (e : Ev B r) : Ev (fun k => if c then A k else B k) r := by
  simpa only [if_neg h] using e
theorem ev_eq {α : Type} {A : Nat → Option α} {r r' : α} (h : r = r') (e : Ev A r) : Ev A r' := h ▸ e
theorem ev_some {α : Type} {r r' : α} (h : r = r') : Ev (fun _ => some r) r' := h ▸ Ev.now r
theorem w64 {n : Int} (h0 : -9223372036854775808 ≤ n) (h1 : n ≤ 9223372036854775807) : wrap64 n = n := by unfold wrap64; omega
theorem rd_nat (l : List Int) (i : Nat) : rd l (i : Int) = l.getD i 0 := by simp [rd]
noncomputable def dec (P : Prop) : Bool := @decide P (Classical.propDecidable P)
theorem dec_true {P : Prop} (h : P) : dec P = true := @decide_eq_true P (Classical.propDecidable P) h
theorem dec_false {P : Prop} (h : ¬ P) : dec P = false := @decide_eq_false P (Classical.propDecidable P) h
theorem dec_iff {P : Prop} : dec P = true ↔ P := ⟨fun h => @of_decide_eq_true P (Classical.propDecidable P) h, dec_true⟩
theorem dec_congr {P Q : Prop} (h : P ↔ Q) : dec P = dec Q := by
  by_cases p : P
  · rw [dec_true p, dec_true (h.mp p)]
  · rw [dec_false p, dec_false (fun q => p (h.mpr q))]
theorem dec_dec {P : Prop} [Decidable P] : decide P = dec P := by
  by_cases p : P
  · rw [dec_true p, decide_eq_true p]
  · rw [dec_false p, decide_eq_false p]

def Bnd (l : List Int) : Prop := 1 ≤ l.length ∧ l.length ≤ 9 ∧ (∀ j : Nat, j < l.length → 1 ≤ l.getD j 0 ∧ l.getD j 0 ≤ 60) ∧ (∀ j : Nat, j + 1 < l.length → l.getD j 0 ≤ l.getD (j + 1) 0)

theorem l6In_eq (a b c : Int) : spec_l6In.f a b c = some (decide (b ≤ a ∧ a ≤ c)) := by
  unfold spec_l6In.f
  by_cases h : a ≥ b
  · rw [if_pos h]; congr 1; by_cases g : a ≤ c
    · rw [decide_eq_true g, decide_eq_true ⟨h, g⟩]
    · rw [decide_eq_false g, decide_eq_false (fun x => g x.2)]
  · rw [if_neg h, decide_eq_false (fun x => h x.1)]

theorem sb_l0 (l : List Int) (hl : l.length ≤ 9223372036854775000) : ∀ d i : Nat, i + d = l.length →
    Ev (fun k => spec_l1Bundle.l0 k l (i : Int)) (dec ((∀ j : Nat, i ≤ j → j < l.length → (1 ≤ l.getD j 0 ∧ l.getD j 0 ≤ 60) ∧ (0 < j → l.getD (j - 1) 0 ≤ l.getD j 0)) ∧ 1 ≤ l.length ∧ l.length ≤ 9)) := by
  intro d
  induction d with
  | zero =>
    intro i hi
    refine Ev.step (fun k => rfl) ?_
    simp only [spec_l1Bundle.l0, l6In_eq, Option.bind_some]
    refine ev_neg (by omega) (ev_some ?_)
    rw [dec_dec]
    exact dec_congr ⟨fun h => ⟨fun j h1 h2 => by omega, by omega, by omega⟩, fun h => by omega⟩
  | succ d ih =>
    intro i hi
    refine Ev.step (fun k => rfl) ?_
    simp only [spec_l1Bundle.l0, l6In_eq, Option.bind_some, rd_nat]
    have hw : wrap64 ((i : Int) + 1) = ((i + 1 : Nat) : Int) := by rw [w64 (by omega) (by omega)]; omega
    have hlt : (i : Int) < (l.length : Int) := by omega
    refine ev_pos hlt (ev_pos (by omega) ?_)
    by_cases hr : 1 ≤ l.getD i 0 ∧ l.getD i 0 ≤ 60
    · refine ev_pos (decide_eq_true hr) ?_
      by_cases h0 : (i : Int) > 0
      · have hw1 : wrap64 ((i : Int) - 1) = ((i - 1 : Nat) : Int) := by rw [w64 (by omega) (by omega)]; omega
        rw [hw1, rd_nat]
        refine ev_pos h0 (ev_pos (by omega) (ev_pos (by omega) ?_))
        by_cases hs : l.getD i 0 < l.getD (i - 1) 0
        · refine ev_pos hs (ev_some (dec_false ?_).symm)
          intro h
          have := (h.1 i (Nat.le_refl _) (by omega)).2 (by omega)
          omega
        · refine ev_neg hs ?_
          rw [hw]
          refine ev_eq (dec_congr ?_) (ih (i + 1) (by omega))
          constructor
          · rintro ⟨h, g⟩
            refine ⟨fun j h1 h2 => ?_, g⟩
            by_cases e : j = i
            · subst e; exact ⟨hr, fun _ => by omega⟩
            · exact h j (by omega) h2
          · rintro ⟨h, g⟩
            exact ⟨fun j h1 h2 => h j (by omega) h2, g⟩
      · refine ev_neg h0 ?_
        rw [hw]
        refine ev_eq (dec_congr ?_) (ih (i + 1) (by omega))
        constructor
        · rintro ⟨h, g⟩
          refine ⟨fun j h1 h2 => ?_, g⟩
          by_cases e : j = i
          · subst e; exact ⟨hr, fun _ => by omega⟩
          · exact h j (by omega) h2
        · rintro ⟨h, g⟩
          exact ⟨fun j h1 h2 => h j (by omega) h2, g⟩
    · refine ev_neg (by simpa using hr) (ev_some (dec_false ?_).symm)
      intro h
      exact hr (h.1 i (Nat.le_refl _) (by omega)).1

theorem sb_ev (l : List Int) (hl : l.length ≤ 9223372036854775000) : Ev (fun k => spec_l1Bundle.f k l) (dec (Bnd l)) := by
  simp only [spec_l1Bundle.f]
  refine ev_eq (dec_congr ?_) (sb_l0 l hl l.length 0 (by omega))
  unfold Bnd
  constructor
  · rintro ⟨h, g1, g2⟩
    exact ⟨g1, g2, fun j hj => (h j (Nat.zero_le _) hj).1, fun j hj => (h (j + 1) (Nat.zero_le _) hj).2 (by omega)⟩
  · rintro ⟨g1, g2, h, s⟩
    refine ⟨fun j _ hj => ⟨h j hj, fun h0 => ?_⟩, g1, g2⟩
    have := s (j - 1) (by omega)
    rwa [show j - 1 + 1 = j by omega] at this

theorem ir_l0 (l : List Int) (hl : l.length ≤ 9223372036854775000) : ∀ d i : Nat, i + d = l.length →
    Ev (fun k => impl_isRuler.l0 k l l (l.length : Int) (i : Int)) (dec ((∀ j : Nat, i ≤ j → j < l.length → 1 ≤ l.getD j 0 ∧ l.getD j 0 ≤ 60) ∧ 1 ≤ l.length ∧ l.length ≤ 9)) := by
  intro d
  induction d with
  | zero =>
    intro i hi
    refine Ev.step (fun k => rfl) ?_
    simp only [impl_isRuler.l0]
    refine ev_neg (by omega) ?_
    by_cases h1 : (l.length : Int) ≥ 1
    · refine ev_pos h1 (ev_some ?_)
      rw [dec_dec]
      exact dec_congr ⟨fun h => ⟨fun j h1 h2 => by omega, by omega, by omega⟩, fun h => by omega⟩
    · refine ev_neg h1 (ev_some (dec_false ?_).symm)
      intro h; omega
  | succ d ih =>
    intro i hi
    refine Ev.step (fun k => rfl) ?_
    simp only [impl_isRuler.l0, rd_nat]
    have hw : wrap64 ((i : Int) + 1) = ((i + 1 : Nat) : Int) := by rw [w64 (by omega) (by omega)]; omega
    refine ev_pos (by omega) (ev_pos (by omega) (ev_pos (by omega) ?_))
    by_cases ha : l.getD i 0 < 1
    · refine ev_pos ha (ev_some (dec_false ?_).symm)
      intro h
      have := h.1 i (Nat.le_refl _) (by omega)
      omega
    · refine ev_neg ha ?_
      by_cases hb : l.getD i 0 > 60
      · refine ev_pos hb (ev_some (dec_false ?_).symm)
        intro h
        have := h.1 i (Nat.le_refl _) (by omega)
        omega
      · refine ev_neg hb ?_
        rw [hw]
        refine ev_eq (dec_congr ?_) (ih (i + 1) (by omega))
        constructor
        · rintro ⟨h, g⟩
          refine ⟨fun j h1 h2 => ?_, g⟩
          by_cases e : j = i
          · subst e; omega
          · exact h j (by omega) h2
        · rintro ⟨h, g⟩
          exact ⟨fun j h1 h2 => h j (by omega) h2, g⟩

theorem ir_ev (l : List Int) (hl : l.length ≤ 9223372036854775000) : Ev (fun k => impl_isRuler.f k l) (dec ((∀ j : Nat, j < l.length → 1 ≤ l.getD j 0 ∧ l.getD j 0 ≤ 60) ∧ 1 ≤ l.length ∧ l.length ≤ 9)) := by
  simp only [impl_isRuler.f]
  refine ev_eq (dec_congr ?_) (ir_l0 l hl l.length 0 (by omega))
  exact ⟨fun h => ⟨fun j hj => h.1 j (Nat.zero_le _) hj, h.2⟩, fun h => ⟨fun j _ hj => h.1 j hj, h.2⟩⟩

theorem less_eq (a b : Int) : cmp_Less_int.f a b = some (decide (a < b)) := by
  simp [cmp_Less_int.f, cmp_isNaN_int.f]

theorem is_l0 (l : List Int) (hl : l.length ≤ 9223372036854775000) : ∀ i : Nat, i < l.length ∨ i = 0 →
    Ev (fun k => slices_IsSorted_int_int.l0 k l (i : Int)) (dec (∀ j : Nat, j < i → l.getD j 0 ≤ l.getD (j + 1) 0)) := by
  intro i
  induction i with
  | zero =>
    intro _
    refine Ev.step (fun k => rfl) ?_
    simp only [slices_IsSorted_int_int.l0]
    refine ev_neg (by omega) (ev_some (dec_true ?_).symm)
    intro j hj; omega
  | succ i ih =>
    intro hi
    have hi' : i + 1 < l.length := by omega
    have hw : wrap64 (((i + 1 : Nat) : Int) - 1) = (i : Int) := by rw [w64 (by omega) (by omega)]; omega
    refine Ev.step (fun k => rfl) ?_
    simp only [slices_IsSorted_int_int.l0, hw, rd_nat, less_eq, Option.bind_some]
    refine ev_pos (by omega) (ev_pos (by omega) (ev_pos (by omega) (ev_pos (by omega) (ev_pos (by omega) ?_))))
    by_cases hs : l.getD (i + 1) 0 < l.getD i 0
    · refine ev_pos (decide_eq_true hs) (ev_some (dec_false ?_).symm)
      intro h
      have := h i (by omega)
      omega
    · refine ev_neg (by simpa using hs) ?_
      refine ev_eq (dec_congr ?_) (ih (by omega))
      constructor
      · intro h j hj
        by_cases e : j = i
        · subst e; omega
        · exact h j (by omega)
      · intro h j hj
        exact h j (by omega)

theorem is_ev (l : List Int) (hl : l.length ≤ 9223372036854775000) : Ev (fun k => slices_IsSorted_int_int.f k l) (dec (∀ j : Nat, j + 1 < l.length → l.getD j 0 ≤ l.getD (j + 1) 0)) := by
  simp only [slices_IsSorted_int_int.f]
  by_cases h0 : l.length = 0
  · rw [show wrap64 ((l.length : Int) - 1) = -1 by rw [w64 (by omega) (by omega)]; omega]
    refine Ev.step (fun k => rfl) ?_
    simp only [slices_IsSorted_int_int.l0]
    refine ev_neg (by omega) (ev_some (dec_true ?_).symm)
    intro j hj; omega
  · rw [show wrap64 ((l.length : Int) - 1) = ((l.length - 1 : Nat) : Int) by rw [w64 (by omega) (by omega)]; omega]
    refine ev_eq (dec_congr ?_) (is_l0 l hl (l.length - 1) (by omega))
    exact ⟨fun h j hj => h j (by omega), fun h j hj => h j (by omega)⟩

theorem ii_ev (l : List Int) (hl : l.length ≤ 9223372036854775000) : Ev (fun k => impl_StickIn.f k l) (dec (Bnd l)) := by
  simp only [impl_StickIn.f]
  refine Ev.bind (ir_ev l hl) ?_
  by_cases h : (∀ j : Nat, j < l.length → 1 ≤ l.getD j 0 ∧ l.getD j 0 ≤ 60) ∧ 1 ≤ l.length ∧ l.length ≤ 9
  · refine ev_pos (dec_true h) (Ev.bind (is_ev l hl) (ev_some (dec_congr ?_)))
    exact ⟨fun s => ⟨h.2.1, h.2.2, h.1, s⟩, fun b => b.2.2.2⟩
  · refine ev_neg (by rw [dec_false h]; exact Bool.false_ne_true) (ev_some (dec_false ?_).symm)
    exact fun b => h ⟨b.2.2.1, b.1, b.2.1⟩

theorem xor_nat (a b : Nat) (ha : a < 2 ^ 62) (hb : b < 2 ^ 62) : Go.bits .xor .i64 (a : Int) (b : Int) = ((a ^^^ b : Nat) : Int) := by
  have ha' : a % 2 ^ 64 = a := Nat.mod_eq_of_lt (Nat.lt_of_lt_of_le ha (by decide))
  have hb' : b % 2 ^ 64 = b := Nat.mod_eq_of_lt (Nat.lt_of_lt_of_le hb (by decide))
  have hx : a ^^^ b < 2 ^ 62 := Nat.xor_lt_two_pow ha hb
  show IntKind.i64.wrap (((BitVec.ofInt 64 (a : Int) ^^^ BitVec.ofInt 64 (b : Int)).toNat : Nat) : Int) = _
  rw [BitVec.ofInt_natCast, BitVec.ofInt_natCast, BitVec.toNat_xor, BitVec.toNat_ofNat, BitVec.toNat_ofNat, ha', hb', IntKind.wrap_i64]
  have : (2 : Nat) ^ 62 = 4611686018427387904 := by decide
  omega
theorem xor_pos {a b : Int} (ha : 0 ≤ a) (hb : 0 ≤ b) (ha1 : a < 4611686018427387904) (hb1 : b < 4611686018427387904) : 0 ≤ Go.bits .xor .i64 a b := by
  obtain ⟨x, rfl⟩ := Int.eq_ofNat_of_zero_le ha
  obtain ⟨y, rfl⟩ := Int.eq_ofNat_of_zero_le hb
  have e : (2 : Nat) ^ 62 = 4611686018427387904 := by decide
  rw [xor_nat x y (by omega) (by omega)]
  exact Int.natCast_nonneg _
def Rdr (bs : List Int) : Prop := bs.length ≤ 2000 ∧ ∀ i : Int, 0 ≤ rd bs i ∧ rd bs i ≤ 255
theorem rdr_of {bs : List Int} (h : bs.length ≤ 2000) (hb : ∀ x ∈ bs, 0 ≤ x ∧ x ≤ 255) : Rdr bs := by
  refine ⟨h, fun i => ?_⟩
  unfold rd
  rw [List.getD_eq_getElem?_getD]
  by_cases g : i.toNat < bs.length
  · rw [List.getElem?_eq_getElem g]; exact hb _ (List.getElem_mem g)
  · rw [List.getElem?_eq_none (by omega)]; simp
theorem tmod_in {a n : Int} (ha : 0 ≤ a) (hn : 0 < n) : 0 ≤ Int.tmod a n ∧ Int.tmod a n < n := by
  rw [Int.tmod_eq_emod_of_nonneg ha]
  exact ⟨Int.emod_nonneg _ (by omega), Int.emod_lt_of_pos _ hn⟩
theorem pick_ev (bs : List Int) (p n : Int) (hr : Rdr bs) (h0 : 0 ≤ p) (h1 : p ≤ 1000000) (hn : n ≤ 1000000000) :
    ∃ r, Ev (fun k => spec_l6Rd_pick.f k bs p n) (r, p + 1) ∧ 0 ≤ r ∧ (1 ≤ n → r < n) ∧ (n < 1 → r = 0) := by
  have hw : wrap64 (p + 1) = p + 1 := w64 (by omega) (by omega)
  simp only [spec_l6Rd_pick.f, hw]
  by_cases c : n < 1
  · refine ⟨0, ev_pos c (Ev.step (fun k => rfl) ?_), by omega, by omega, fun _ => rfl⟩
    simp only [spec_l6Rd_pick.j0]
    exact ev_pos (by simp) (Ev.now _)
  · by_cases e : bs.length = 0
    · refine ⟨0, ev_neg c (Ev.step (fun k => rfl) ?_), by omega, by omega, by omega⟩
      simp only [spec_l6Rd_pick.j0]
      exact ev_pos (by simp [e]) (Ev.now _)
    · have hw2 : wrap64 (p + 1 - 1) = p := by rw [w64 (by omega) (by omega)]; omega
      have hnz : ¬ ((bs.length : Int) == 0) = true := by simp; exact fun h => e (by rw [h]; rfl)
      by_cases g : p < bs.length
      · have b := hr.2 p
        have hm := tmod_in b.1 (show 0 < n by omega)
        refine ⟨Int.tmod (rd bs p) n, ev_neg c (Ev.step (fun k => rfl) ?_), hm.1, fun _ => hm.2, by omega⟩
        simp only [spec_l6Rd_pick.j0, hw2]
        rw [w64 (n := rd bs p) (by omega) (by omega)]
        exact ev_neg hnz (ev_pos g (ev_pos h0 (ev_neg (by omega) (Ev.now _))))
      · have hl : 0 < (bs.length : Int) := by omega
        have hl2 := hr.1
        have m1 := tmod_in h0 hl
        have m2 := tmod_in (show 0 ≤ p * 7 + 3 by omega) hl
        have b1 := hr.2 (Int.tmod p bs.length)
        have b2 := hr.2 (Int.tmod (p * 7 + 3) bs.length)
        have q0 : 0 ≤ Int.tdiv p bs.length := Int.tdiv_nonneg h0 (by omega)
        have q1 : Int.tdiv p bs.length ≤ p := by
          rw [Int.tdiv_eq_ediv_of_nonneg h0]; exact Int.ediv_le_self _ h0
        generalize hA : rd bs (Int.tmod p bs.length) = A at b1
        generalize hB : rd bs (Int.tmod (p * 7 + 3) bs.length) = B at b2
        generalize hC : Int.tdiv p bs.length = C at q0 q1
        have hX : wrap64 (wrap64 (wrap64 (wrap64 A * 131) + wrap64 (wrap64 B * 1117)) + wrap64 (p * 29)) = A * 131 + B * 1117 + p * 29 := by
          unfold wrap64; omega
        have hY : wrap64 ((A * 131 + B * 1117 + p * 29) + wrap64 (wrap64 C * 53)) = A * 131 + B * 1117 + p * 29 + C * 53 := by
          unfold wrap64; omega
        have hD : wrap64 (Int.tdiv (A * 131 + B * 1117 + p * 29 + C * 53) 64) = (A * 131 + B * 1117 + p * 29 + C * 53) / 64 := by
          rw [Int.tdiv_eq_ediv_of_nonneg (by omega)]; unfold wrap64; omega
        have hx := xor_pos (a := A * 131 + B * 1117 + p * 29 + C * 53) (b := (A * 131 + B * 1117 + p * 29 + C * 53) / 64) (by omega) (by omega) (by omega) (by omega)
        have hm := tmod_in hx (show 0 < n by omega)
        refine ⟨_, ev_neg c (Ev.step (fun k => rfl) ?_), hm.1, fun _ => hm.2, by omega⟩
        simp only [spec_l6Rd_pick.j0, hw2, w64 (n := p * 7) (by omega) (by omega), w64 (n := p * 7 + 3) (by omega) (by omega), hA, hB, hC, hX, hY, hD]
        exact ev_neg hnz (ev_neg g (ev_neg (by omega) (ev_pos m1.1 (ev_pos m1.2 (ev_pos m2.1 (ev_pos m2.2 (ev_neg (by omega) (Ev.now _))))))))
theorem open_ev (l : List Int) (hb : ∀ x ∈ l, 0 ≤ x ∧ x ≤ 255) : ∃ bs, spec_l6Open.f l = some (bs, 0) ∧ Rdr bs := by
  unfold spec_l6Open.f
  by_cases c : (l.length : Int) > 2000
  · refine ⟨l.take 2000, ?_, rdr_of (by simp; omega) (fun x hx => hb x (List.mem_of_mem_take hx))⟩
    rw [if_pos c, if_pos (by omega)]
  · exact ⟨l, by rw [if_neg c], rdr_of (by omega) hb⟩
theorem bytes_in {l : List Int} (h : ∀ x ∈ l, (Lit.int .u8 x).wf = true) : ∀ x ∈ l, 0 ≤ x ∧ x ≤ 255 := by
  intro x hx
  have := h x hx
  simp [Lit.wf, IntKind.min, IntKind.max, IntKind.bits, IntKind.signed] at this
  omega

theorem length_ev (bs : List Int) (p : Int) (hr : Rdr bs) (h0 : 0 ≤ p) (h1 : p ≤ 100000) : ∃ r, Ev (fun k => spec_l91Length.f k bs p) (r, p + 3) ∧ 1 ≤ r ∧ r ≤ 60 := by
  simp only [spec_l91Length.f]
  obtain ⟨r1, e1, b1, c1, _⟩ := pick_ev bs p 12 hr (by omega) (by omega) (by omega)
  obtain ⟨r2, e2, b2, c2, _⟩ := pick_ev bs (p + 1) 6 hr (by omega) (by omega) (by omega)
  obtain ⟨r3, e3, b3, c3, _⟩ := pick_ev bs (p + 1 + 1) 48 hr (by omega) (by omega) (by omega)
  have c1 := c1 (by omega)
  have c2 := c2 (by omega)
  have c3 := c3 (by omega)
  have hd : Int.tdiv r2 5 = r2 / 5 := Int.tdiv_eq_ediv_of_nonneg b2
  have hq : wrap64 (Int.tdiv r2 5) = 0 ∨ wrap64 (Int.tdiv r2 5) = 1 := by rw [hd]; unfold wrap64; omega
  refine ⟨wrap64 (wrap64 (1 + r1) + wrap64 (wrap64 (Int.tdiv r2 5) * r3)), Ev.bind e1 (Ev.bind e2 (Ev.bind e3 (ev_some ?_))), ?_⟩
  · show (_, p + 1 + 1 + 1) = (_, p + 3)
    rw [show p + 1 + 1 + 1 = p + 3 by omega]
  · rcases hq with h | h
    · rw [h]; unfold wrap64; omega
    · rw [h]; unfold wrap64; omega

def stp (x : Int) (out : List Int) : Nat → Nat
  | 0 => 0
  | n + 1 => if x < out.getD n 0 then stp x out n else n + 1
theorem stp_le (x : Int) (out : List Int) : ∀ n, stp x out n ≤ n
  | 0 => Nat.le_refl _
  | n + 1 => by
    unfold stp
    split
    · exact Nat.le_succ_of_le (stp_le x out n)
    · exact Nat.le_refl _
def insA (out : List Int) (x : Int) : List Int := out.take (stp x out out.length) ++ [x] ++ out.drop (stp x out out.length)
def srt (a : List Int) : List Int := a.foldl insA []
theorem insA_length (out : List Int) (x : Int) : (insA out x).length = out.length + 1 := by
  have := stp_le x out out.length
  unfold insA; simp; omega
theorem l1s_l1 (a out : List Int) (i : Nat) (hi : i < a.length) (ha : a.length ≤ 100000) (ho : out.length ≤ 100000) (r : List Int)
    (h : Ev (fun k => spec_l1Sort.l0 k a (insA out (a.getD i 0)) ((i + 1 : Nat) : Int)) r) :
    ∀ n : Nat, n ≤ out.length → stp (a.getD i 0) out n = stp (a.getD i 0) out out.length → Ev (fun k => spec_l1Sort.l1 k a out (i : Int) (n : Int)) r := by
  have hw : wrap64 ((i : Int) + 1) = ((i + 1 : Nat) : Int) := by rw [w64 (by omega) (by omega)]; omega
  intro n
  induction n with
  | zero =>
    intro hn hs
    refine Ev.step (fun k => rfl) ?_
    simp only [spec_l1Sort.l1, Option.bind_some, hw, rd_nat, List.nil_append, Int.toNat_natCast]
    have e : out.take 0 ++ [a.getD i 0] ++ out.drop 0 = insA out (a.getD i 0) := by
      unfold insA; rw [← hs]; rfl
    rw [e]
    exact ev_neg (by omega) (ev_pos (by omega) (ev_pos (by omega) (ev_pos (by simp) (ev_pos (by omega) (ev_pos (by omega) (ev_pos (by simp) (ev_pos (by simp; omega) h)))))))
  | succ n ih =>
    intro hn hs
    have hw1 : wrap64 (((n + 1 : Nat) : Int) - 1) = (n : Int) := by rw [w64 (by omega) (by omega)]; omega
    refine Ev.step (fun k => rfl) ?_
    simp only [spec_l1Sort.l1, Option.bind_some, hw, hw1, rd_nat, List.nil_append, Int.toNat_natCast]
    refine ev_pos (by omega) (ev_pos (by omega) (ev_pos (by omega) (ev_pos (by omega) (ev_pos (by omega) ?_))))
    by_cases c : a.getD i 0 < out.getD n 0
    · refine ev_pos c (ih (by omega) ?_)
      rw [← hs, stp, if_pos c]
    · have e : out.take (n + 1) ++ [a.getD i 0] ++ out.drop (n + 1) = insA out (a.getD i 0) := by
        unfold insA; rw [← hs, stp, if_neg c]
      rw [e]
      exact ev_neg c (ev_pos (by omega) (ev_pos (by omega) (ev_pos (by simp; omega) (ev_pos (by simp; omega) (ev_pos (by simp; omega) h)))))
theorem l1s_l0 (a : List Int) (ha : a.length ≤ 100000) : ∀ d i : Nat, ∀ out : List Int, i + d = a.length → out.length = i → Ev (fun k => spec_l1Sort.l0 k a out (i : Int)) ((a.drop i).foldl insA out) := by
  intro d
  induction d with
  | zero =>
    intro i out hi ho
    refine Ev.step (fun k => rfl) ?_
    simp only [spec_l1Sort.l0]
    rw [List.drop_of_length_le (by omega)]
    exact ev_neg (by omega) (Ev.now _)
  | succ d ih =>
    intro i out hi ho
    refine Ev.step (fun k => rfl) ?_
    simp only [spec_l1Sort.l0]
    rw [List.drop_eq_getElem_cons (by omega), List.foldl_cons]
    have e : a[i]'(by omega) = a.getD i 0 := by simp [List.getD_eq_getElem?_getD, show i < a.length by omega]
    rw [e]
    refine ev_pos (by omega) ?_
    have h := ih (i + 1) (insA out (a.getD i 0)) (by omega) (by rw [insA_length]; omega)
    exact l1s_l1 a out i (by omega) ha (by omega) _ h out.length (Nat.le_refl _) rfl
theorem l1s_ev (a : List Int) (ha : a.length ≤ 100000) : Ev (fun k => spec_l1Sort.f k a) (srt a) := by
  simp only [spec_l1Sort.f]
  exact l1s_l0 a ha a.length 0 [] (by omega) rfl
theorem foldl_insA_length (a : List Int) : ∀ out : List Int, (a.foldl insA out).length = out.length + a.length := by
  induction a with
  | nil => intro out; simp
  | cons x a ih => intro out; rw [List.foldl_cons, ih, insA_length, List.length_cons]; omega
theorem srt_length (a : List Int) : (srt a).length = a.length := by unfold srt; rw [foldl_insA_length]; simp

theorem sticks_l0 (bs : List Int) (hr : Rdr bs) (n : Int) (hn : n ≤ 1000) : ∀ d i : Nat, ∀ out : List Int, ∀ p : Int, (n - i).toNat = d → i ≤ 1000 → out.length = i → 0 ≤ p → p ≤ 10 + 3 * i →
    ∃ m q, Ev (fun k => spec_l91Sticks.l0 k n out (i : Int) bs p) (m, q) ∧ m.length ≤ 1001 + i ∧ m.length ≤ (if n ≤ i then (i : Int) else n) + 1 := by
  intro d
  induction d with
  | zero =>
    intro i out p hd hi ho hp0 hp1
    obtain ⟨r, er, r0, r1, _⟩ := pick_ev bs p 40 hr hp0 (by omega) (by omega)
    have hl := srt_length out
    have hs := l1s_ev out (by omega)
    rw [if_pos (by omega)]
    by_cases c0 : r = 0
    · refine ⟨srt out ++ [1], p + 1, Ev.step (fun k => rfl) ?_, by simp; omega, by simp; omega⟩
      simp only [spec_l91Sticks.l0]
      exact ev_neg (by omega) (Ev.bind hs (Ev.bind er (ev_pos c0 (ev_pos (by omega) (Ev.now _)))))
    · by_cases c1 : r = 1
      · refine ⟨[0] ++ srt out, p + 1, Ev.step (fun k => rfl) ?_, by simp; omega, by simp; omega⟩
        simp only [spec_l91Sticks.l0, Option.bind_some]
        exact ev_neg (by omega) (Ev.bind hs (Ev.bind er (ev_neg c0 (ev_pos c1 (ev_pos (by simp; omega) (Ev.now _))))))
      · refine ⟨srt out, p + 1, Ev.step (fun k => rfl) ?_, by omega, by omega⟩
        simp only [spec_l91Sticks.l0]
        exact ev_neg (by omega) (Ev.bind hs (Ev.bind er (ev_neg c0 (ev_neg c1 (Ev.now _)))))
  | succ d ih =>
    intro i out p hd hi ho hp0 hp1
    obtain ⟨x, ex, _⟩ := length_ev bs p hr hp0 (by omega)
    have hw : wrap64 ((i : Int) + 1) = ((i + 1 : Nat) : Int) := by rw [w64 (by omega) (by omega)]; omega
    obtain ⟨m, q, e, h, h2⟩ := ih (i + 1) (out ++ [x]) (p + 3) (by omega) (by omega) (by simp [ho]) (by omega) (by omega)
    refine ⟨m, q, Ev.step (fun k => rfl) ?_, by omega, ?_⟩
    · simp only [spec_l91Sticks.l0, hw]
      exact ev_pos (by omega) (Ev.bind ex (ev_pos (by omega) e))
    · rw [if_neg (by omega)]
      split at h2 <;> omega
theorem sticks_ev (bs : List Int) (hr : Rdr bs) (p n : Int) (hp0 : 0 ≤ p) (hp : p ≤ 10) (hn : n ≤ 900) : ∃ m q, Ev (fun k => spec_l91Sticks.f k bs p n) (m, q) ∧ m.length ≤ 1001 ∧ m.length ≤ (if n ≤ 0 then 0 else n) + 1 := by
  simp only [spec_l91Sticks.f]
  obtain ⟨m, q, e, h, h2⟩ := sticks_l0 bs hr n (by omega) (n - 0).toNat 0 [] p (by simp) (by omega) rfl hp0 (by omega)
  exact ⟨m, q, e, by omega, by simpa using h2⟩

theorem bundle_ev (bs : List Int) (hr : Rdr bs) (p : Int) (hp0 : 0 ≤ p) (hp : p ≤ 5) : ∃ m q, Ev (fun k => spec_l91Bundle.f k bs p) (m, q) ∧ m.length ≤ 10 := by
  simp only [spec_l91Bundle.f]
  obtain ⟨r, er, r0, r1, _⟩ := pick_ev bs p 9 hr hp0 (by omega) (by omega)
  have r1 := r1 (by omega)
  have hw : wrap64 (1 + r) = 1 + r := w64 (by omega) (by omega)
  obtain ⟨m, q, e, _, h⟩ := sticks_ev bs hr (p + 1) (1 + r) (by omega) (by omega) (by omega)
  refine ⟨m, q, Ev.bind er ?_, by split at h <;> omega⟩
  rw [hw]
  exact Ev.bind e (Ev.now _)

theorem one_list_ev (l : List Int) (hb : ∀ x ∈ l, 0 ≤ x ∧ x ≤ 255) : ∃ m, Ev (fun k => spec_l91One.f k l) m ∧ m.length ≤ 10 := by
  obtain ⟨bs, ho, hr⟩ := open_ev l hb
  simp only [spec_l91One.f, ho, Option.bind_some]
  obtain ⟨m, q, e, h⟩ := bundle_ev bs hr 0 (by omega) (by omega)
  exact ⟨m, Ev.bind e (Ev.now _), h⟩

def Rul (l : List Int) : Prop := (∀ j : Nat, j < l.length → 1 ≤ l.getD j 0 ∧ l.getD j 0 ≤ 60) ∧ 1 ≤ l.length ∧ l.length ≤ 9
theorem rul_mem {l : List Int} : Rul l ↔ (∀ x ∈ l, 1 ≤ x ∧ x ≤ 60) ∧ 1 ≤ l.length ∧ l.length ≤ 9 := by
  refine ⟨fun h => ⟨fun x hx => ?_, h.2⟩, fun h => ⟨fun j hj => ?_, h.2⟩⟩
  · obtain ⟨j, hj, rfl⟩ := List.getElem_of_mem hx
    have := h.1 j hj
    rwa [List.getD_eq_getElem?_getD, List.getElem?_eq_getElem hj] at this
  · rw [List.getD_eq_getElem?_getD, List.getElem?_eq_getElem hj]
    exact h.1 _ (List.getElem_mem hj)
theorem rul_perm {l m : List Int} (p : l.Perm m) : Rul l ↔ Rul m := by
  rw [rul_mem, rul_mem, p.length_eq]
  exact ⟨fun h => ⟨fun x hx => h.1 x (p.mem_iff.mpr hx), h.2⟩, fun h => ⟨fun x hx => h.1 x (p.mem_iff.mp hx), h.2⟩⟩
theorem pw_get {l : List Int} (h : l.Pairwise (· ≤ ·)) {i j : Nat} (hij : i ≤ j) (hj : j < l.length) : l.getD i 0 ≤ l.getD j 0 := by
  rw [List.getD_eq_getElem?_getD, List.getD_eq_getElem?_getD, List.getElem?_eq_getElem hj, List.getElem?_eq_getElem (by omega : i < l.length)]
  rcases Nat.lt_or_ge i j with c | c
  · exact List.pairwise_iff_getElem.mp h i j _ _ c
  · have : i = j := by omega
    subst this
    exact Int.le_refl _
theorem pw_of {l : List Int} (h : ∀ j : Nat, j + 1 < l.length → l.getD j 0 ≤ l.getD (j + 1) 0) : l.Pairwise (· ≤ ·) := by
  have H : ∀ d i : Nat, i + d < l.length → l.getD i 0 ≤ l.getD (i + d) 0 := by
    intro d
    induction d with
    | zero => intro i _; exact Int.le_refl _
    | succ d ih => intro i hi; exact Int.le_trans (ih i (by omega)) (h (i + d) (by omega))
  rw [List.pairwise_iff_getElem]
  intro i j hi hj hij
  have := H (j - i) i (by omega)
  rw [show i + (j - i) = j by omega] at this
  rwa [List.getD_eq_getElem?_getD, List.getD_eq_getElem?_getD, List.getElem?_eq_getElem hi, List.getElem?_eq_getElem hj] at this
theorem bnd_iff {l : List Int} : Bnd l ↔ Rul l ∧ l.Pairwise (· ≤ ·) :=
  ⟨fun h => ⟨⟨h.2.2.1, h.1, h.2.1⟩, pw_of h.2.2.2⟩, fun h => ⟨h.1.2.1, h.1.2.2, h.1.1, fun j hj => pw_get h.2 (by omega) hj⟩⟩
theorem stp_spec (x : Int) (out : List Int) : ∀ n, (stp x out n = 0 ∨ out.getD (stp x out n - 1) 0 ≤ x) ∧ ∀ j, stp x out n ≤ j → j < n → x < out.getD j 0
  | 0 => ⟨.inl rfl, fun j _ h => absurd h (by omega)⟩
  | n + 1 => by
    unfold stp
    split
    · next h =>
      refine ⟨(stp_spec x out n).1, fun j h1 h2 => ?_⟩
      rcases Nat.lt_or_ge j n with c | c
      · exact (stp_spec x out n).2 j h1 c
      · have : j = n := by omega
        subst this; exact h
    · next h => exact ⟨.inr (by rw [Nat.add_sub_cancel]; omega), fun j h1 h2 => by omega⟩
theorem insA_perm (out : List Int) (x : Int) : (insA out x).Perm (out ++ [x]) := by
  unfold insA
  have h1 : (List.take (stp x out out.length) out ++ [x] ++ List.drop (stp x out out.length) out).Perm (List.take (stp x out out.length) out ++ List.drop (stp x out out.length) out ++ [x]) := by
    rw [List.append_assoc, List.append_assoc]
    exact List.Perm.append_left _ List.perm_append_comm
  rwa [List.take_append_drop] at h1
theorem insA_sorted (out : List Int) (x : Int) (h : out.Pairwise (· ≤ ·)) : (insA out x).Pairwise (· ≤ ·) := by
  unfold insA
  have hs := stp_spec x out out.length
  have hl := stp_le x out out.length
  generalize stp x out out.length = s at hs hl
  have ht : ∀ a ∈ out.take s, a ≤ x := by
    intro a ha
    obtain ⟨j, hj, rfl⟩ := List.getElem_of_mem ha
    rw [List.length_take] at hj
    rcases hs.1 with c | c
    · omega
    · have := pw_get h (show j ≤ s - 1 by omega) (by omega)
      rw [List.getD_eq_getElem?_getD, List.getElem?_eq_getElem (by omega : j < out.length)] at this
      rw [List.getElem_take]
      exact Int.le_trans this c
  have hd : ∀ a ∈ out.drop s, x ≤ a := by
    intro a ha
    obtain ⟨j, hj, rfl⟩ := List.getElem_of_mem ha
    rw [List.length_drop] at hj
    have := hs.2 (s + j) (by omega) (by omega)
    rw [List.getD_eq_getElem?_getD, List.getElem?_eq_getElem (by omega : s + j < out.length)] at this
    rw [List.getElem_drop]
    exact Int.le_of_lt this
  have hp : (out.take s ++ out.drop s).Pairwise (· ≤ ·) := by rw [List.take_append_drop]; exact h
  rw [List.pairwise_append] at hp
  rw [List.pairwise_append, List.pairwise_append]
  refine ⟨⟨hp.1, List.pairwise_singleton .., fun a ha b hb => ?_⟩, hp.2.1, fun a ha b hb => ?_⟩
  · rw [List.mem_singleton] at hb; subst hb; exact ht a ha
  · rw [List.mem_append, List.mem_singleton] at ha
    rcases ha with ha | rfl
    · exact hp.2.2 a ha b hb
    · exact hd b hb
theorem foldl_insA (a : List Int) : ∀ out : List Int, (a.foldl insA out).Perm (out ++ a) ∧ (out.Pairwise (· ≤ ·) → (a.foldl insA out).Pairwise (· ≤ ·)) := by
  induction a with
  | nil => intro out; simp
  | cons x a ih =>
    intro out
    rw [List.foldl_cons]
    refine ⟨?_, fun h => (ih _).2 (insA_sorted out x h)⟩
    have := (ih (insA out x)).1.trans (List.Perm.append_right a (insA_perm out x))
    simpa using this
theorem srt_perm (a : List Int) : (srt a).Perm a := by
  show (a.foldl insA []).Perm a
  simpa using (foldl_insA a []).1
theorem srt_sorted (a : List Int) : (srt a).Pairwise (· ≤ ·) := (foldl_insA a []).2 List.Pairwise.nil
theorem srt_eq {a b : List Int} (p : a.Perm b) (h : b.Pairwise (· ≤ ·)) : srt a = b :=
  ((srt_perm a).trans p).eq_of_pairwise (fun _ _ _ _ h1 h2 => Int.le_antisymm h1 h2) (srt_sorted a) h
theorem ms_eq (a : List Int) : (a.mergeSort fun x y => decide (x ≤ y)) = srt a := by
  refine (srt_eq (List.mergeSort_perm a _).symm ?_).symm
  have := List.pairwise_mergeSort (le := fun x y : Int => decide (x ≤ y)) (fun a b c h1 h2 => by simp at *; omega) (fun a b => by simp; omega) a
  simpa using this
theorem srt_id {a : List Int} (h : a.Pairwise (· ≤ ·)) : srt a = a := srt_eq (List.Perm.refl a) h
theorem bnd_srt (a : List Int) : Bnd (srt a) ↔ Rul a := by
  rw [bnd_iff, rul_perm (srt_perm a)]
  exact ⟨fun h => h.1, fun h => ⟨h, srt_sorted a⟩⟩

def trI (n : Nat) : List (Nat × Nat × Nat) := (List.range' 0 n).flatMap fun x => (List.range' (x + 1) (n - (x + 1))).flatMap fun y => (List.range' (y + 1) (n - (y + 1))).flatMap fun z => [(x, y, z)]
def trS (n : Nat) : List (Nat × Nat × Nat) := (List.range' 0 n).flatMap fun i => (List.range' 0 i).flatMap fun j => (List.range' 0 j).flatMap fun k => [(k, j, i)]
theorem tr_perm {n : Nat} (h : n ≤ 9) : (trI n).Perm (trS n) := by
  have T : (List.range 10).all (fun n => (trI n).isPerm (trS n)) = true := by decide +kernel
  rw [List.all_eq_true] at T
  exact List.isPerm_iff.mp (T n (List.mem_range.mpr (by omega)))
theorem foldl_flat {α β σ : Type} (g : α → List β) (f : σ → β → σ) (l : List α) (s : σ) : (l.flatMap g).foldl f s = l.foldl (fun s x => (g x).foldl f s) s := by
  induction l generalizing s with
  | nil => rfl
  | cons a l ih => simp only [List.flatMap_cons, List.foldl_append, List.foldl_cons, ih]
theorem mem_trI {n : Nat} {t : Nat × Nat × Nat} : t ∈ trI n ↔ t.1 < t.2.1 ∧ t.2.1 < t.2.2 ∧ t.2.2 < n := by
  obtain ⟨a, b, c⟩ := t
  simp only [trI, List.mem_flatMap, List.mem_range'_1, List.mem_singleton, Prod.mk.injEq]
  constructor
  · rintro ⟨x, hx, y, hy, z, hz, rfl, rfl, rfl⟩
    omega
  · rintro ⟨h1, h2, h3⟩
    exact ⟨a, by omega, b, by omega, c, by omega, rfl, rfl, rfl⟩
theorem foldl_count (p : Nat × Nat × Nat → Bool) (l : List (Nat × Nat × Nat)) (n : Int) : l.foldl (fun n t => if p t = true then n + 1 else n) n = n + (l.countP p : Nat) := by
  induction l generalizing n with
  | nil => simp
  | cons a l ih =>
    rw [List.foldl_cons, ih, List.countP_cons]
    split <;> omega
theorem tri_count (p : Nat × Nat × Nat → Bool) {n : Nat} (h : n ≤ 9) : (trI n).countP p ≤ 84 := by
  refine Nat.le_trans List.countP_le_length ?_
  have T : (List.range 10).all (fun n => decide ((trI n).length ≤ 84)) = true := by decide +kernel
  rw [List.all_eq_true] at T
  exact of_decide_eq_true (T n (List.mem_range.mpr (by omega)))
theorem foldl_max (p : Nat × Nat × Nat → Bool) (f : Nat × Nat × Nat → Int) (l : List (Nat × Nat × Nat)) (m : Int) :
    let w := l.foldl (fun m t => if p t = true then mx m (f t) else m) m
    m ≤ w ∧ (∀ t ∈ l, p t = true → f t ≤ w) ∧ (w = m ∨ ∃ t ∈ l, p t = true ∧ f t = w) := by
  induction l generalizing m with
  | nil => simp
  | cons a l ih =>
    simp only [List.foldl_cons]
    by_cases h : p a = true
    · rw [if_pos h]
      obtain ⟨h1, h2, h3⟩ := ih (mx m (f a))
      have hm : m ≤ mx m (f a) ∧ f a ≤ mx m (f a) ∧ (mx m (f a) = m ∨ mx m (f a) = f a) := by unfold mx; split <;> omega
      refine ⟨by omega, ?_, ?_⟩
      · intro t ht hp
        rcases List.mem_cons.mp ht with rfl | ht
        · omega
        · exact h2 t ht hp
      · rcases h3 with h3 | ⟨t, ht, hp, e⟩
        · rcases hm.2.2 with e | e
          · left; omega
          · right; exact ⟨a, List.mem_cons_self .., h, by omega⟩
        · right; exact ⟨t, List.mem_cons_of_mem _ ht, hp, e⟩
    · rw [if_neg h]
      obtain ⟨h1, h2, h3⟩ := ih m
      refine ⟨h1, ?_, ?_⟩
      · intro t ht hp
        rcases List.mem_cons.mp ht with rfl | ht
        · exact absurd hp h
        · exact h2 t ht hp
      · rcases h3 with h3 | ⟨t, ht, hp, e⟩
        · exact .inl h3
        · exact .inr ⟨t, List.mem_cons_of_mem _ ht, hp, e⟩

theorem l1Three_eq (a b c : Int) (ha : 0 ≤ a ∧ a ≤ 1000000) (hb : 0 ≤ b ∧ b ≤ 1000000) (hc : 0 ≤ c ∧ c ≤ 1000000) : spec_l1Three.f a b c = some (decide (a < b + c ∧ b < a + c ∧ c < a + b)) := by
  unfold spec_l1Three.f
  rw [w64 (n := b + c) (by omega) (by omega), w64 (n := a + c) (by omega) (by omega), w64 (n := a + b) (by omega) (by omega)]
  by_cases h1 : a < b + c
  · by_cases h2 : b < a + c
    · rw [if_pos h1, if_pos h2]; simp [h1, h2]
    · rw [if_pos h1, if_neg h2]; simp [h2]
  · rw [if_neg h1]; simp [h1]

theorem bnd_mono {l : List Int} (h : Bnd l) : ∀ d i : Nat, i + d < l.length → l.getD i 0 ≤ l.getD (i + d) 0
  | 0, i, _ => by simp
  | d + 1, i, hi => by
    have a := bnd_mono h d i (by omega)
    have b := h.2.2.2 (i + d) (by omega)
    rw [show i + (d + 1) = i + d + 1 by omega]
    omega
theorem bnd_le {l : List Int} (h : Bnd l) {i j : Nat} (hij : i ≤ j) (hj : j < l.length) : l.getD i 0 ≤ l.getD j 0 := by
  have := bnd_mono h (j - i) i (by omega)
  rwa [show i + (j - i) = j by omega] at this
def pI (l : List Int) (t : Nat × Nat × Nat) : Bool := decide (l.getD t.2.2 0 < l.getD t.1 0 + l.getD t.2.1 0)

noncomputable def cnt (l : List Int) : Int := ((trI l.length).countP (pI l) : Nat)
theorem foldl_countw (p : Nat × Nat × Nat → Bool) (g : Int → Nat × Nat × Nat → Int) (l : List (Nat × Nat × Nat)) (n : Int) (hg : ∀ n : Int, 0 ≤ n → n ≤ 1000000 → ∀ t ∈ l, g n t = if p t = true then n + 1 else n) (h0 : 0 ≤ n) (hn : n + l.length ≤ 1000000) :
    l.foldl g n = n + (l.countP p : Nat) := by
  induction l generalizing n with
  | nil => simp
  | cons a l ih =>
    rw [List.length_cons] at hn
    rw [List.foldl_cons, hg n h0 (by omega) a (List.mem_cons_self ..), List.countP_cons]
    by_cases c : p a = true
    · rw [if_pos c, ih (n + 1) (fun n a b t ht => hg n a b t (List.mem_cons_of_mem _ ht)) (by omega) (by omega), if_pos c]; omega
    · rw [if_neg c, ih n (fun n a b t ht => hg n a b t (List.mem_cons_of_mem _ ht)) h0 (by omega), if_neg c]; omega
theorem tr_len {n : Nat} (h : n ≤ 9) : (trI n).length ≤ 84 := by
  have T : (List.range 10).all (fun n => decide ((trI n).length ≤ 84)) = true := by decide +kernel
  rw [List.all_eq_true] at T
  exact of_decide_eq_true (T n (List.mem_range.mpr (by omega)))

theorem im_l2 (l : List Int) (hl : l.length ≤ 1000) (x y : Nat) (hx : x < l.length) (hy : y < l.length) (r : Int) : ∀ d z : Nat, ∀ m : Int, z + d = l.length →
    Ev (fun k => impl_StickMany.l1 k l (x : Int) ((y + 1 : Nat) : Int) ((List.range' z d).foldl (fun m (z : Nat) => impl_StickMany.step l x y z m) m)) r → Ev (fun k => impl_StickMany.l2 k l (x : Int) (y : Int) (z : Int) m) r := by
  intro d
  induction d with
  | zero =>
    intro z m hz h
    have hw : wrap64 ((y : Int) + 1) = ((y + 1 : Nat) : Int) := by rw [w64 (by omega) (by omega)]; omega
    refine Ev.step (fun k => rfl) ?_
    simp only [impl_StickMany.l2, hw]
    exact ev_neg (by omega) h
  | succ d ih =>
    intro z m hz h
    have hw : wrap64 ((z : Int) + 1) = ((z + 1 : Nat) : Int) := by rw [w64 (by omega) (by omega)]; omega
    refine Ev.step (fun k => rfl) ?_
    simp only [impl_StickMany.l2, hw]
    exact ev_pos (by omega) (ev_pos (by omega) (ih (z + 1) _ (by omega) h))
theorem im_l1 (l : List Int) (hl : l.length ≤ 1000) (x : Nat) (hx : x < l.length) (r : Int) : ∀ d y : Nat, ∀ m : Int, y + d = l.length →
    Ev (fun k => impl_StickMany.l0 k l ((x + 1 : Nat) : Int) ((List.range' y d).foldl (fun m (y : Nat) => (List.range' (y + 1) (l.length - (y + 1))).foldl (fun m (z : Nat) => impl_StickMany.step l x y z m) m) m)) r → Ev (fun k => impl_StickMany.l1 k l (x : Int) (y : Int) m) r := by
  intro d
  induction d with
  | zero =>
    intro y m hy h
    have hw : wrap64 ((x : Int) + 1) = ((x + 1 : Nat) : Int) := by rw [w64 (by omega) (by omega)]; omega
    refine Ev.step (fun k => rfl) ?_
    simp only [impl_StickMany.l1, hw]
    exact ev_neg (by omega) h
  | succ d ih =>
    intro y m hy h
    have hw : wrap64 ((y : Int) + 1) = ((y + 1 : Nat) : Int) := by rw [w64 (by omega) (by omega)]; omega
    refine Ev.step (fun k => rfl) ?_
    simp only [impl_StickMany.l1, hw]
    exact ev_pos (by omega) (im_l2 l hl x y hx (by omega) r (l.length - (y + 1)) (y + 1) m (by omega) (ih (y + 1) _ (by omega) h))
theorem im_l0 (l : List Int) (hl : l.length ≤ 1000) : ∀ d x : Nat, ∀ m : Int, x + d = l.length →
    Ev (fun k => impl_StickMany.l0 k l (x : Int) m) ((List.range' x d).foldl (fun m (x : Nat) => (List.range' (x + 1) (l.length - (x + 1))).foldl (fun m (y : Nat) => (List.range' (y + 1) (l.length - (y + 1))).foldl (fun m (z : Nat) => impl_StickMany.step l x y z m) m) m) m) := by
  intro d
  induction d with
  | zero =>
    intro x m hx
    refine Ev.step (fun k => rfl) ?_
    simp only [impl_StickMany.l0]
    exact ev_neg (by omega) (Ev.now _)
  | succ d ih =>
    intro x m hx
    have hw : wrap64 ((x : Int) + 1) = ((x + 1 : Nat) : Int) := by rw [w64 (by omega) (by omega)]; omega
    refine Ev.step (fun k => rfl) ?_
    simp only [impl_StickMany.l0, hw]
    refine ev_pos (by omega) (im_l1 l hl x (by omega) _ (l.length - (x + 1)) (x + 1) m (by omega) (ih (x + 1) _ (by omega)))
theorem im_ev (l : List Int) (hl : l.length ≤ 1000) (m : Int) : Ev (fun k => impl_StickMany.l0 k l 0 m) ((trI l.length).foldl (fun m (t : Nat × Nat × Nat) => impl_StickMany.step l t.1 t.2.1 t.2.2 m) m) := by
  have h := im_l0 l hl l.length 0 m (by omega)
  have e : (trI l.length).foldl (fun m (t : Nat × Nat × Nat) => impl_StickMany.step l t.1 t.2.1 t.2.2 m) m = (List.range' 0 l.length).foldl (fun m (x : Nat) => (List.range' (x + 1) (l.length - (x + 1))).foldl (fun m (y : Nat) => (List.range' (y + 1) (l.length - (y + 1))).foldl (fun m (z : Nat) => impl_StickMany.step l x y z m) m) m) m := by
    unfold trI
    simp only [foldl_flat, List.foldl_cons, List.foldl_nil]
  rw [e]
  exact h

theorem implMany_ev (l : List Int) (hl : l.length ≤ 9223372036854775000) : Ev (fun k => impl_StickMany.f k l) (if dec (Bnd l) = true then (cnt l, true) else (0, false)) := by
  simp only [impl_StickMany.f]
  refine Ev.bind (ii_ev l hl) ?_
  by_cases h : Bnd l
  · rw [dec_true h, if_pos rfl]
    have h9 := h.2.1
    refine ev_pos rfl (Ev.bind (im_ev l (by omega) 0) (ev_some ?_))
    rw [foldl_countw (pI l) _ (trI l.length) 0 ?_ (by omega) (by have := tr_len h9; omega)]
    · unfold cnt; simp
    · intro n n0 n1 t ht
      obtain ⟨a, b, c⟩ := mem_trI.mp ht
      have b1 := h.2.2.1 t.1 (by omega)
      have b2 := h.2.2.1 t.2.1 (by omega)
      unfold impl_StickMany.step pI
      rw [rd_nat, rd_nat, rd_nat, w64 (n := l.getD t.1 0 + l.getD t.2.1 0) (by omega) (by omega), w64 (n := n + 1) (by omega) (by omega)]
      by_cases q : l.getD t.2.2 0 < l.getD t.1 0 + l.getD t.2.1 0
      · rw [if_pos q, if_pos (decide_eq_true q)]
      · rw [if_neg q, if_neg (by simpa using q)]
  · rw [dec_false h, if_neg (by simp)]
    exact ev_neg (by simp) (Ev.now _)

theorem pI_three {l : List Int} (h : Bnd l) {i j k : Nat} (hi : i < l.length) (hj : j < i) (hk : k < j) : spec_l1Three.f (l.getD i 0) (l.getD j 0) (l.getD k 0) = some (pI l (k, j, i)) := by
  have b1 := h.2.2.1 i hi
  have b2 := h.2.2.1 j (by omega)
  have b3 := h.2.2.1 k (by omega)
  have m1 := bnd_le h (i := j) (j := i) (by omega) hi
  have m2 := bnd_le h (i := k) (j := j) (by omega) (by omega)
  rw [l1Three_eq _ _ _ (by omega) (by omega) (by omega)]
  congr 1
  unfold pI
  rw [decide_eq_decide]
  show _ ↔ l.getD i 0 < l.getD k 0 + l.getD j 0
  omega

def kfold (l : List Int) (i j : Nat) (s d : Nat) (m : Int) : Int := (List.range' s d).foldl (fun m (k : Nat) => if pI l (k, j, i) = true then m + 1 else m) m
theorem sm_l2 (l : List Int) (h : Bnd l) (i j : Nat) (hi : i < l.length) (hj : j < i) (r : Int) : ∀ d k : Nat, ∀ m : Int, k + d = j → 0 ≤ m → m + d ≤ 1000000 →
    Ev (fun f => spec_l1Many.l1 f l (kfold l i j k d m) (i : Int) ((j + 1 : Nat) : Int)) r → Ev (fun f => spec_l1Many.l2 f l m (i : Int) (j : Int) (k : Int)) r := by
  have h9 := h.2.1
  intro d
  induction d with
  | zero =>
    intro k m hk h0 hm e
    have hw : wrap64 ((j : Int) + 1) = ((j + 1 : Nat) : Int) := by rw [w64 (by omega) (by omega)]; omega
    refine Ev.step (fun k => rfl) ?_
    simp only [spec_l1Many.l2, hw]
    exact ev_neg (by omega) e
  | succ d ih =>
    intro k m hk h0 hm e
    have hw : wrap64 ((k : Int) + 1) = ((k + 1 : Nat) : Int) := by rw [w64 (by omega) (by omega)]; omega
    have hm1 : wrap64 (m + 1) = m + 1 := w64 (by omega) (by omega)
    refine Ev.step (fun k => rfl) ?_
    simp only [spec_l1Many.l2, hw, hm1, rd_nat, pI_three h hi hj (show k < j by omega), Option.bind_some]
    refine ev_pos (by omega) (ev_pos (by omega) (ev_pos (by omega) (ev_pos (by omega) (ev_pos (by omega) (ev_pos (by omega) (ev_pos (by omega) ?_))))))
    have ek : kfold l i j k (d + 1) m = kfold l i j (k + 1) d (if pI l (k, j, i) = true then m + 1 else m) := rfl
    rw [ek] at e
    by_cases c : pI l (k, j, i) = true
    · rw [if_pos c] at e
      exact ev_pos c (ih (k + 1) (m + 1) (by omega) (by omega) (by omega) e)
    · rw [if_neg c] at e
      exact ev_neg c (ih (k + 1) m (by omega) h0 (by omega) e)
theorem kfold_le (l : List Int) (i j : Nat) : ∀ d s : Nat, ∀ m : Int, m ≤ kfold l i j s d m ∧ kfold l i j s d m ≤ m + d
  | 0, _, m => by simp [kfold]
  | d + 1, s, m => by
    have ek : kfold l i j s (d + 1) m = kfold l i j (s + 1) d (if pI l (s, j, i) = true then m + 1 else m) := rfl
    rw [ek]
    by_cases c : pI l (s, j, i) = true
    · rw [if_pos c]; have := kfold_le l i j d (s + 1) (m + 1); omega
    · rw [if_neg c]; have := kfold_le l i j d (s + 1) m; omega
def jfold (l : List Int) (i : Nat) (s d : Nat) (m : Int) : Int := (List.range' s d).foldl (fun m (j : Nat) => kfold l i j 0 j m) m
theorem sm_l1 (l : List Int) (h : Bnd l) (i : Nat) (hi : i < l.length) (r : Int) : ∀ d j : Nat, ∀ m : Int, j + d = i → 0 ≤ m → m + 10 * d ≤ 100000 →
    Ev (fun f => spec_l1Many.l0 f l (jfold l i j d m) ((i + 1 : Nat) : Int)) r → Ev (fun f => spec_l1Many.l1 f l m (i : Int) (j : Int)) r := by
  have h9 := h.2.1
  intro d
  induction d with
  | zero =>
    intro j m hj h0 hm e
    have hw : wrap64 ((i : Int) + 1) = ((i + 1 : Nat) : Int) := by rw [w64 (by omega) (by omega)]; omega
    refine Ev.step (fun k => rfl) ?_
    simp only [spec_l1Many.l1, hw]
    exact ev_neg (by omega) e
  | succ d ih =>
    intro j m hj h0 hm e
    have hb := kfold_le l i j j 0 m
    refine Ev.step (fun k => rfl) ?_
    simp only [spec_l1Many.l1]
    refine ev_pos (by omega) (sm_l2 l h i j hi (by omega) r j 0 m (by omega) h0 (by omega) ?_)
    exact ih (j + 1) _ (by omega) (by omega) (by omega) e
theorem jfold_le (l : List Int) (i : Nat) : ∀ d s : Nat, ∀ m : Int, s + d ≤ 10 → m ≤ jfold l i s d m ∧ jfold l i s d m ≤ m + 10 * d
  | 0, _, m, _ => by simp [jfold]
  | d + 1, s, m, hs => by
    have ek : jfold l i s (d + 1) m = jfold l i (s + 1) d (kfold l i s 0 s m) := rfl
    rw [ek]
    have a := kfold_le l i s s 0 m
    have b := jfold_le l i d (s + 1) (kfold l i s 0 s m) (by omega)
    omega
def ifold (l : List Int) (s d : Nat) (m : Int) : Int := (List.range' s d).foldl (fun m (i : Nat) => jfold l i 0 i m) m
theorem sm_l0 (l : List Int) (h : Bnd l) : ∀ d i : Nat, ∀ m : Int, i + d = l.length → 0 ≤ m → m + 100 * d ≤ 10000 → Ev (fun f => spec_l1Many.l0 f l m (i : Int)) (ifold l i d m) := by
  have h9 := h.2.1
  intro d
  induction d with
  | zero =>
    intro i m hi h0 hm
    refine Ev.step (fun k => rfl) ?_
    simp only [spec_l1Many.l0]
    exact ev_neg (by omega) (Ev.now _)
  | succ d ih =>
    intro i m hi h0 hm
    have hb := jfold_le l i i 0 m (by omega)
    refine Ev.step (fun k => rfl) ?_
    simp only [spec_l1Many.l0]
    refine ev_pos (by omega) (sm_l1 l h i (by omega) _ i 0 m (by omega) h0 (by omega) ?_)
    exact ih (i + 1) _ (by omega) (by omega) (by omega)
theorem specMany_ev (l : List Int) (h : Bnd l) : Ev (fun k => spec_l1Many.f k l) (cnt l) := by
  simp only [spec_l1Many.f]
  have h9 := h.2.1
  refine ev_eq ?_ (sm_l0 l h l.length 0 0 (by omega) (by omega) (by omega))
  have e : ifold l 0 l.length 0 = (trS l.length).foldl (fun m t => if pI l t = true then m + 1 else m) 0 := by
    unfold ifold jfold kfold trS
    simp only [foldl_flat, List.foldl_cons, List.foldl_nil]
  rw [e, foldl_count, ← (tr_perm h9).countP_eq]
  unfold cnt
  simp

noncomputable def dropr (l : List Int) (a : Int) : List Int × Bool := if dec (Bnd l ∧ 0 ≤ a ∧ a < l.length ∧ l.length ≠ 1) = true then (impl_StickDropD.res l a.toNat, true) else ([], false)
theorem dropr_no {l : List Int} {a : Int} (h : ¬ (Bnd l ∧ 0 ≤ a ∧ a < l.length ∧ l.length ≠ 1)) : dropr l a = ([], false) := by
  unfold dropr; rw [if_neg (by rw [dec_false h]; simp)]
theorem dropr_yes {l : List Int} {a : Int} (h : Bnd l ∧ 0 ≤ a ∧ a < l.length ∧ l.length ≠ 1) : dropr l a = (impl_StickDropD.res l a.toNat, true) := by
  unfold dropr; rw [if_pos (dec_true h)]
theorem idrop_ev (l : List Int) (a : Int) (hl : l.length ≤ 9223372036854775000) : Ev (fun k => impl_StickDrop.f k l a) (dropr l a) := by
  simp only [impl_StickDrop.f]
  refine Ev.bind (ii_ev l hl) ?_
  by_cases h : Bnd l
  · have h2 := h.2.1
    refine ev_pos (dec_true h) ?_
    by_cases c1 : a < 0
    · rw [dropr_no (fun c => by omega)]; exact ev_pos c1 (Ev.now _)
    · refine ev_neg c1 ?_
      by_cases c2 : a ≥ (l.length : Int)
      · rw [dropr_no (fun c => by omega)]; exact ev_pos c2 (Ev.now _)
      · refine ev_neg c2 ?_
        by_cases c3 : (l.length : Int) = 1
        · rw [dropr_no (fun c => by omega)]; exact ev_pos c3 (Ev.now _)
        · rw [dropr_yes ⟨h, by omega, by omega, by omega⟩]
          exact ev_neg c3 (ev_pos (by omega) (Ev.now _))
  · rw [dropr_no (fun c => h c.1)]
    exact ev_neg (by rw [dec_false h]; simp) (Ev.now _)
theorem drop_sub (l : List Int) (i : Nat) (hi : i < l.length) : List.Sublist (impl_StickDropD.res l i) l ∧ (impl_StickDropD.res l i).length + 1 = l.length := by
  unfold impl_StickDropD.res
  refine ⟨?_, by simp; omega⟩
  have := List.Sublist.append (List.Sublist.refl (l.take i)) (List.drop_sublist_drop_left l (show i ≤ i + 1 by omega))
  rwa [List.take_append_drop] at this
theorem bnd_res {l : List Int} (h : Bnd l) (i : Nat) (hi : i < l.length) (h1 : l.length ≠ 1) : Bnd (impl_StickDropD.res l i) := by
  obtain ⟨hs, hl⟩ := drop_sub l i hi
  rw [bnd_iff, rul_mem] at h ⊢
  have h2 := h.1.2
  exact ⟨⟨fun x hx => h.1.1 x (hs.subset hx), by omega, by omega⟩, h.2.sublist hs⟩

def skp (s i : Nat) : Nat := if i < s then i else i + 1
def skT (s : Nat) (t : Nat × Nat × Nat) : Nat × Nat × Nat := (skp s t.1, skp s t.2.1, skp s t.2.2)
theorem trI_skip {n s : Nat} (hn : n ≤ 8) (hs : s ≤ n) : (trI n).map (skT s) = (trI (n + 1)).filter (fun t => t.1 != s && t.2.1 != s && t.2.2 != s) := by
  have T : (List.range 9).all (fun n => (List.range (n + 1)).all fun s => decide ((trI n).map (skT s) = (trI (n + 1)).filter (fun t => t.1 != s && t.2.1 != s && t.2.2 != s))) = true := by decide +kernel
  rw [List.all_eq_true] at T
  have T := T n (List.mem_range.mpr (by omega))
  rw [List.all_eq_true] at T
  exact of_decide_eq_true (T s (List.mem_range.mpr (by omega)))
theorem cnt_skip {l m : List Int} {s : Nat} (hm : m.length = l.length + 1) (hn : l.length ≤ 8) (hs : s ≤ l.length) (h : ∀ i : Nat, i < l.length → l.getD i 0 = m.getD (skp s i) 0) : cnt l ≤ cnt m := by
  have H : (trI l.length).countP (pI l) ≤ (trI m.length).countP (pI m) := by
    rw [hm]
    have e1 : (trI l.length).countP (pI l) = ((trI l.length).map (skT s)).countP (pI m) := by
      rw [List.countP_map]
      apply List.countP_congr
      intro t ht
      obtain ⟨h1, h2, h3⟩ := mem_trI.mp ht
      simp only [Function.comp, skT, pI, h t.1 (by omega), h t.2.1 (by omega), h t.2.2 (by omega), decide_eq_true_eq]
      exact ⟨fun hh => decide_eq_true hh, fun hh => of_decide_eq_true hh⟩
    rw [e1, trI_skip hn hs]
    exact List.Sublist.countP_le List.filter_sublist
  unfold cnt
  omega
theorem insA_skp (l : List Int) (x : Int) : ∀ i : Nat, i < l.length → l.getD i 0 = (insA l x).getD (skp (stp x l l.length) i) 0 := by
  intro i hi
  unfold insA skp
  have hs := stp_le x l l.length
  generalize stp x l l.length = s at hs
  rw [List.append_assoc]
  by_cases c : i < s
  · rw [if_pos c, List.getD_eq_getElem?_getD, List.getD_eq_getElem?_getD, List.getElem?_append_left (by simp; omega), List.getElem?_take_of_lt c]
  · rw [if_neg c, List.getD_eq_getElem?_getD, List.getD_eq_getElem?_getD, List.getElem?_append_right (by simp; omega), List.length_take, Nat.min_eq_left hs,
      List.getElem?_append_right (by simp; omega), List.length_singleton, List.getElem?_drop]
    rw [show s + (i + 1 - s - 1) = i by omega]
theorem srt_put {l : List Int} (h : l.Pairwise (· ≤ ·)) (x : Int) : srt (l ++ [x]) = insA l x := by
  have := srt_id h
  unfold srt at this ⊢
  rw [List.foldl_append, this]
  rfl
theorem cnt_put {l : List Int} (h : l.Pairwise (· ≤ ·)) (hl : l.length ≤ 8) (x : Int) : cnt l ≤ cnt (srt (l ++ [x])) := by
  rw [srt_put h]
  exact cnt_skip (insA_length l x) hl (stp_le x l l.length) (insA_skp l x)

theorem cnt_bound {n : Nat} (h : n ≤ 9) : ((trI n).length : Int) ≤ wrap64 (Int.tdiv (wrap64 ((wrap64 ((n : Int) * (wrap64 ((n : Int) - 1)))) * (wrap64 ((n : Int) - 2)))) 6) := by
  have T : (List.range 10).all (fun n => decide (((trI n).length : Int) ≤ wrap64 (Int.tdiv (wrap64 ((wrap64 ((n : Int) * (wrap64 ((n : Int) - 1)))) * (wrap64 ((n : Int) - 2)))) 6))) = true := by decide +kernel
  rw [List.all_eq_true] at T
  exact of_decide_eq_true (T n (List.mem_range.mpr (by omega)))
theorem cnt_in {l : List Int} (h : l.length ≤ 9) : 0 ≤ cnt l ∧ cnt l ≤ wrap64 (Int.tdiv (wrap64 ((wrap64 ((l.length : Int) * (wrap64 ((l.length : Int) - 1)))) * (wrap64 ((l.length : Int) - 2)))) 6) := by
  have h1 := cnt_bound h
  have h2 : (trI l.length).countP (pI l) ≤ (trI l.length).length := List.countP_le_length
  unfold cnt
  omega
theorem FnMany : laws_FnMany.Pure := by
  intro l h1 h2 hw
  apply Ev.rounds
  simp only [laws_FnMany.f, spec_DrawStickMany.f, spec_StickMany.f]
  by_cases c : (l.length : Int) > 1048576
  · exact ev_pos c (Ev.now _)
  · obtain ⟨m, hm, h3⟩ := one_list_ev l (bytes_in hw)
    refine ev_neg c (Ev.bind (Ev.bind hm (Ev.now _)) ?_)
    have im := implMany_ev m (by omega)
    by_cases h : Bnd m
    · rw [if_pos (dec_true h)] at im
      refine Ev.bind im (Ev.bind (Ev.bind (sb_ev m (by omega)) (ev_pos (dec_true h) (Ev.bind (specMany_ev m h) (Ev.now _)))) (ev_pos rfl (ev_pos rfl (Ev.step (fun k => rfl) ?_))))
      simp only [laws_FnMany.j0]
      have hb := cnt_in h.2.1
      refine ev_neg (by simp) (Ev.bind (idrop_ev m 0 (by omega)) ?_)
      by_cases c1 : m.length = 1
      · rw [dropr_no (fun q => q.2.2.2 c1)]
        refine Ev.bind (implMany_ev [] (by simp)) (ev_pos hb.1 (ev_pos hb.2 (ev_neg (by simp) (Ev.now _))))
      · have h0 := h.1
        rw [dropr_yes ⟨h, by omega, by omega, c1⟩]
        have hr := bnd_res h 0 (by omega) c1
        obtain ⟨_, hl⟩ := drop_sub m 0 (by omega)
        have ir := implMany_ev (impl_StickDropD.res m 0) (by omega)
        rw [if_pos (dec_true hr)] at ir
        refine Ev.bind ir (ev_pos hb.1 (ev_pos hb.2 (ev_pos rfl (ev_pos rfl (ev_some (decide_eq_true ?_))))))
        refine cnt_skip (s := 0) hl.symm (by have := h.2.1; omega) (by omega) (fun i hi => ?_)
        unfold impl_StickDropD.res skp
        rw [if_neg (by omega)]
        simp [List.getD_eq_getElem?_getD]
    · have e : ¬ dec (Bnd m) = true := by rw [dec_false h]; simp
      rw [if_neg e] at im
      refine Ev.bind im (Ev.bind (Ev.bind (sb_ev m (by omega)) (ev_neg e (Ev.now _))) (ev_pos rfl (ev_pos rfl (Ev.step (fun k => rfl) ?_))))
      simp only [laws_FnMany.j0]
      exact ev_pos (by simp) (ev_pos rfl (ev_some (by simp)))

end Go.Proofs.Ytagcakhpjjbilaa.Pure
