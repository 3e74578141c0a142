/- The pure statement of FnThree: for every input the law answers true; no condition. -/
import Derived.Test.YtkolcdknnmgaoaaQFnThreex2
namespace Go.Proofs.Ytkolcdknnmgaoaa.Pure
open Go.RowKit Go.Proofs.Ytkolcdknnmgaoaa.QFnThree Go.Proofs.YtkolcdknnmgaoaaW.PrintWords Go.Proofs.YtkolcdknnmgaoaaW.PrintLast Go.Proofs.YtkolcdknnmgaoaaW.PrintMore

theorem ev_pos {α : Type} {c : Prop} [Decidable c] {A B : Nat → Option α} {r : α} (h : c) (e : Ev A r) : Ev (fun k => if c then A k else B k) r := by
  simpa only [if_pos h] using e
theorem ev_neg {α : Type} {c : Prop} [Decidable c] {A B : Nat → Option α} {r : α} (h : ¬ c) (e : Ev B r) : Ev (fun k => if c then A k else B k) r := by
  simpa only [if_neg h] using e
theorem ev_eq {α : Type} {A : Nat → Option α} {r r' : α} (h : r = r') (e : Ev A r) : Ev A r' := h ▸ e
theorem ev_some {α : Type} {r r' : α} (h : r = r') : Ev (fun _ => some r) r' := h ▸ Ev.now r
theorem w64 {n : Int} (h0 : -9223372036854775808 ≤ n) (h1 : n ≤ 9223372036854775807) : wrap64 n = n := by unfold wrap64; omega
theorem rd_nat (l : List Int) (i : Nat) : rd l (i : Int) = l.getD i 0 := by simp [rd]
noncomputable def dec (P : Prop) : Bool := @decide P (Classical.propDecidable P)
theorem dec_true {P : Prop} (h : P) : dec P = true := @decide_eq_true P (Classical.propDecidable P) h
theorem dec_false {P : Prop} (h : ¬ P) : dec P = false := @decide_eq_false P (Classical.propDecidable P) h
theorem dec_iff {P : Prop} : dec P = true ↔ P := ⟨fun h => @of_decide_eq_true P (Classical.propDecidable P) h, dec_true⟩
theorem dec_congr {P Q : Prop} (h : P ↔ Q) : dec P = dec Q := by
  by_cases p : P
  · rw [dec_true p, dec_true (h.mp p)]
  · rw [dec_false p, dec_false (fun q => p (h.mpr q))]
theorem dec_dec {P : Prop} [Decidable P] : decide P = dec P := by
  by_cases p : P
  · rw [dec_true p, decide_eq_true p]
  · rw [dec_false p, decide_eq_false p]

theorem l6In_eq (a b c : Int) : spec_l6In.f a b c = some (decide (b ≤ a ∧ a ≤ c)) := by
  unfold spec_l6In.f
  by_cases h : a ≥ b
  · rw [if_pos h]; congr 1; by_cases g : a ≤ c
    · rw [decide_eq_true g, decide_eq_true ⟨h, g⟩]
    · rw [decide_eq_false g, decide_eq_false (fun x => g x.2)]
  · rw [if_neg h, decide_eq_false (fun x => h x.1)]

theorem ir_l0 (l : List Int) (hl : l.length ≤ 9223372036854775000) : ∀ d i : Nat, i + d = l.length →
    Ev (fun k => impl_isRuler.l0 k l l (l.length : Int) (i : Int)) (dec ((∀ j : Nat, i ≤ j → j < l.length → 1 ≤ l.getD j 0 ∧ l.getD j 0 ≤ 60) ∧ 1 ≤ l.length ∧ l.length ≤ 9)) := by
  intro d
  induction d with
  | zero =>
    intro i hi
    refine Ev.step (fun k => rfl) ?_
    simp only [impl_isRuler.l0]
    refine ev_neg (by omega) ?_
    by_cases h1 : (l.length : Int) ≥ 1
    · refine ev_pos h1 (ev_some ?_)
      rw [dec_dec]
      exact dec_congr ⟨fun h => ⟨fun j h1 h2 => by omega, by omega, by omega⟩, fun h => by omega⟩
    · refine ev_neg h1 (ev_some (dec_false ?_).symm)
      intro h; omega
  | succ d ih =>
    intro i hi
    refine Ev.step (fun k => rfl) ?_
    simp only [impl_isRuler.l0, rd_nat]
    have hw : wrap64 ((i : Int) + 1) = ((i + 1 : Nat) : Int) := by rw [w64 (by omega) (by omega)]; omega
    refine ev_pos (by omega) (ev_pos (by omega) (ev_pos (by omega) ?_))
    by_cases ha : l.getD i 0 < 1
    · refine ev_pos ha (ev_some (dec_false ?_).symm)
      intro h
      have := h.1 i (Nat.le_refl _) (by omega)
      omega
    · refine ev_neg ha ?_
      by_cases hb : l.getD i 0 > 60
      · refine ev_pos hb (ev_some (dec_false ?_).symm)
        intro h
        have := h.1 i (Nat.le_refl _) (by omega)
        omega
      · refine ev_neg hb ?_
        rw [hw]
        refine ev_eq (dec_congr ?_) (ih (i + 1) (by omega))
        constructor
        · rintro ⟨h, g⟩
          refine ⟨fun j h1 h2 => ?_, g⟩
          by_cases e : j = i
          · subst e; omega
          · exact h j (by omega) h2
        · rintro ⟨h, g⟩
          exact ⟨fun j h1 h2 => h j (by omega) h2, g⟩

theorem ir_ev (l : List Int) (hl : l.length ≤ 9223372036854775000) : Ev (fun k => impl_isRuler.f k l) (dec ((∀ j : Nat, j < l.length → 1 ≤ l.getD j 0 ∧ l.getD j 0 ≤ 60) ∧ 1 ≤ l.length ∧ l.length ≤ 9)) := by
  simp only [impl_isRuler.f]
  refine ev_eq (dec_congr ?_) (ir_l0 l hl l.length 0 (by omega))
  exact ⟨fun h => ⟨fun j hj => h.1 j (Nat.zero_le _) hj, h.2⟩, fun h => ⟨fun j _ hj => h.1 j hj, h.2⟩⟩

theorem l1Three_eq (a b c : Int) (ha : 0 ≤ a ∧ a ≤ 1000000) (hb : 0 ≤ b ∧ b ≤ 1000000) (hc : 0 ≤ c ∧ c ≤ 1000000) : spec_l1Three.f a b c = some (decide (a < b + c ∧ b < a + c ∧ c < a + b)) := by
  unfold spec_l1Three.f
  rw [w64 (n := b + c) (by omega) (by omega), w64 (n := a + c) (by omega) (by omega), w64 (n := a + b) (by omega) (by omega)]
  by_cases h1 : a < b + c
  · by_cases h2 : b < a + c
    · rw [if_pos h1, if_pos h2]; simp [h1, h2]
    · rw [if_pos h1, if_neg h2]; simp [h2]
  · rw [if_neg h1]; simp [h1]

def Three (a b c : Int) : Prop := (1 ≤ a ∧ a ≤ 60) ∧ (1 ≤ b ∧ b ≤ 60) ∧ (1 ≤ c ∧ c ≤ 60) ∧ a < b + c ∧ b < a + c ∧ c < a + b
instance (a b c : Int) : Decidable (Three a b c) := by unfold Three; infer_instance
theorem specThree_eq (a b c : Int) : spec_StickThree.f a b c = some (decide (Three a b c)) := by
  simp only [spec_StickThree.f, l6In_eq, Option.bind_some]
  unfold Three
  by_cases h1 : 1 ≤ a ∧ a ≤ 60
  · by_cases h2 : 1 ≤ b ∧ b ≤ 60
    · by_cases h3 : 1 ≤ c ∧ c ≤ 60
      · rw [l1Three_eq a b c (by omega) (by omega) (by omega)]; simp [h1, h2, h3]
      · simp [h1, h2, h3]
    · simp [h1, h2]
  · simp [h1]
theorem implThree_ev (a b c : Int) : Ev (fun k => impl_StickThree.f k a b c) (decide (Three a b c)) := by
  simp only [impl_StickThree.f]
  have e := ir_ev [a, b, c] (by simp)
  refine Ev.bind e ?_
  unfold Three
  by_cases h : (1 ≤ a ∧ a ≤ 60) ∧ (1 ≤ b ∧ b ≤ 60) ∧ (1 ≤ c ∧ c ≤ 60)
  · refine ev_pos (dec_true ?_) ?_
    · refine ⟨fun j hj => ?_, by simp, by simp⟩
      match j, hj with
      | 0, _ => exact h.1
      | 1, _ => exact h.2.1
      | 2, _ => exact h.2.2
      | j + 3, hj => simp at hj; omega
    · rw [w64 (n := b + c) (by omega) (by omega), w64 (n := a + c) (by omega) (by omega), w64 (n := a + b) (by omega) (by omega)]
      by_cases h1 : a < b + c
      · by_cases h2 : b < a + c
        · exact ev_pos h1 (ev_pos h2 (ev_some (by simp [h, h1, h2])))
        · exact ev_pos h1 (ev_neg h2 (ev_some (by simp [h2])))
      · exact ev_neg h1 (ev_some (by simp [h1]))
  · refine ev_neg ?_ (ev_some (decide_eq_false (fun g => h ⟨g.1, g.2.1, g.2.2.1⟩)).symm)
    rw [dec_false ?_]
    · simp
    · intro g
      have g0 := g.1 0 (by simp)
      have g1 := g.1 1 (by simp)
      have g2 := g.1 2 (by simp)
      simp at g0 g1 g2
      exact h ⟨g0, g1, g2⟩

theorem xor_nat (a b : Nat) (ha : a < 2 ^ 62) (hb : b < 2 ^ 62) : Go.bits .xor .i64 (a : Int) (b : Int) = ((a ^^^ b : Nat) : Int) := by
  have ha' : a % 2 ^ 64 = a := Nat.mod_eq_of_lt (Nat.lt_of_lt_of_le ha (by decide))
  have hb' : b % 2 ^ 64 = b := Nat.mod_eq_of_lt (Nat.lt_of_lt_of_le hb (by decide))
  have hx : a ^^^ b < 2 ^ 62 := Nat.xor_lt_two_pow ha hb
  show IntKind.i64.wrap (((BitVec.ofInt 64 (a : Int) ^^^ BitVec.ofInt 64 (b : Int)).toNat : Nat) : Int) = _
  rw [BitVec.ofInt_natCast, BitVec.ofInt_natCast, BitVec.toNat_xor, BitVec.toNat_ofNat, BitVec.toNat_ofNat, ha', hb', IntKind.wrap_i64]
  have : (2 : Nat) ^ 62 = 4611686018427387904 := by decide
  omega
theorem xor_pos {a b : Int} (ha : 0 ≤ a) (hb : 0 ≤ b) (ha1 : a < 4611686018427387904) (hb1 : b < 4611686018427387904) : 0 ≤ Go.bits .xor .i64 a b := by
  obtain ⟨x, rfl⟩ := Int.eq_ofNat_of_zero_le ha
  obtain ⟨y, rfl⟩ := Int.eq_ofNat_of_zero_le hb
  have e : (2 : Nat) ^ 62 = 4611686018427387904 := by decide
  rw [xor_nat x y (by omega) (by omega)]
  exact Int.natCast_nonneg _
def Rdr (bs : List Int) : Prop := bs.length ≤ 2000 ∧ ∀ i : Int, 0 ≤ rd bs i ∧ rd bs i ≤ 255
theorem rdr_of {bs : List Int} (h : bs.length ≤ 2000) (hb : ∀ x ∈ bs, 0 ≤ x ∧ x ≤ 255) : Rdr bs := by
  refine ⟨h, fun i => ?_⟩
  unfold rd
  rw [List.getD_eq_getElem?_getD]
  by_cases g : i.toNat < bs.length
  · rw [List.getElem?_eq_getElem g]; exact hb _ (List.getElem_mem g)
  · rw [List.getElem?_eq_none (by omega)]; simp
theorem tmod_in {a n : Int} (ha : 0 ≤ a) (hn : 0 < n) : 0 ≤ Int.tmod a n ∧ Int.tmod a n < n := by
  rw [Int.tmod_eq_emod_of_nonneg ha]
  exact ⟨Int.emod_nonneg _ (by omega), Int.emod_lt_of_pos _ hn⟩
theorem pick_ev (bs : List Int) (p n : Int) (hr : Rdr bs) (h0 : 0 ≤ p) (h1 : p ≤ 1000000) (hn : n ≤ 1000000000) :
    ∃ r, Ev (fun k => spec_l6Rd_pick.f k bs p n) (r, p + 1) ∧ 0 ≤ r ∧ (1 ≤ n → r < n) ∧ (n < 1 → r = 0) := by
  have hw : wrap64 (p + 1) = p + 1 := w64 (by omega) (by omega)
  simp only [spec_l6Rd_pick.f, hw]
  by_cases c : n < 1
  · refine ⟨0, ev_pos c (Ev.step (fun k => rfl) ?_), by omega, by omega, fun _ => rfl⟩
    simp only [spec_l6Rd_pick.j0]
    exact ev_pos (by simp) (Ev.now _)
  · by_cases e : bs.length = 0
    · refine ⟨0, ev_neg c (Ev.step (fun k => rfl) ?_), by omega, by omega, by omega⟩
      simp only [spec_l6Rd_pick.j0]
      exact ev_pos (by simp [e]) (Ev.now _)
    · have hw2 : wrap64 (p + 1 - 1) = p := by rw [w64 (by omega) (by omega)]; omega
      have hnz : ¬ ((bs.length : Int) == 0) = true := by simp; exact fun h => e (by rw [h]; rfl)
      by_cases g : p < bs.length
      · have b := hr.2 p
        have hm := tmod_in b.1 (show 0 < n by omega)
        refine ⟨Int.tmod (rd bs p) n, ev_neg c (Ev.step (fun k => rfl) ?_), hm.1, fun _ => hm.2, by omega⟩
        simp only [spec_l6Rd_pick.j0, hw2]
        rw [w64 (n := rd bs p) (by omega) (by omega)]
        exact ev_neg hnz (ev_pos g (ev_pos h0 (ev_neg (by omega) (Ev.now _))))
      · have hl : 0 < (bs.length : Int) := by omega
        have hl2 := hr.1
        have m1 := tmod_in h0 hl
        have m2 := tmod_in (show 0 ≤ p * 7 + 3 by omega) hl
        have b1 := hr.2 (Int.tmod p bs.length)
        have b2 := hr.2 (Int.tmod (p * 7 + 3) bs.length)
        have q0 : 0 ≤ Int.tdiv p bs.length := Int.tdiv_nonneg h0 (by omega)
        have q1 : Int.tdiv p bs.length ≤ p := by
          rw [Int.tdiv_eq_ediv_of_nonneg h0]; exact Int.ediv_le_self _ h0
        generalize hA : rd bs (Int.tmod p bs.length) = A at b1
        generalize hB : rd bs (Int.tmod (p * 7 + 3) bs.length) = B at b2
        generalize hC : Int.tdiv p bs.length = C at q0 q1
        have hX : wrap64 (wrap64 (wrap64 (wrap64 A * 131) + wrap64 (wrap64 B * 1117)) + wrap64 (p * 29)) = A * 131 + B * 1117 + p * 29 := by
          unfold wrap64; omega
        have hY : wrap64 ((A * 131 + B * 1117 + p * 29) + wrap64 (wrap64 C * 53)) = A * 131 + B * 1117 + p * 29 + C * 53 := by
          unfold wrap64; omega
        have hD : wrap64 (Int.tdiv (A * 131 + B * 1117 + p * 29 + C * 53) 64) = (A * 131 + B * 1117 + p * 29 + C * 53) / 64 := by
          rw [Int.tdiv_eq_ediv_of_nonneg (by omega)]; unfold wrap64; omega
        have hx := xor_pos (a := A * 131 + B * 1117 + p * 29 + C * 53) (b := (A * 131 + B * 1117 + p * 29 + C * 53) / 64) (by omega) (by omega) (by omega) (by omega)
        have hm := tmod_in hx (show 0 < n by omega)
        refine ⟨_, ev_neg c (Ev.step (fun k => rfl) ?_), hm.1, fun _ => hm.2, by omega⟩
        simp only [spec_l6Rd_pick.j0, hw2, w64 (n := p * 7) (by omega) (by omega), w64 (n := p * 7 + 3) (by omega) (by omega), hA, hB, hC, hX, hY, hD]
        exact ev_neg hnz (ev_neg g (ev_neg (by omega) (ev_pos m1.1 (ev_pos m1.2 (ev_pos m2.1 (ev_pos m2.2 (ev_neg (by omega) (Ev.now _))))))))
theorem open_ev (l : List Int) (hb : ∀ x ∈ l, 0 ≤ x ∧ x ≤ 255) : ∃ bs, spec_l6Open.f l = some (bs, 0) ∧ Rdr bs := by
  unfold spec_l6Open.f
  by_cases c : (l.length : Int) > 2000
  · refine ⟨l.take 2000, ?_, rdr_of (by simp; omega) (fun x hx => hb x (List.mem_of_mem_take hx))⟩
    rw [if_pos c, if_pos (by omega)]
  · exact ⟨l, by rw [if_neg c], rdr_of (by omega) hb⟩
theorem bytes_in {l : List Int} (h : ∀ x ∈ l, (Lit.int .u8 x).wf = true) : ∀ x ∈ l, 0 ≤ x ∧ x ≤ 255 := by
  intro x hx
  have := h x hx
  simp [Lit.wf, IntKind.min, IntKind.max, IntKind.bits, IntKind.signed] at this
  omega

theorem length_ev (bs : List Int) (p : Int) (hr : Rdr bs) (h0 : 0 ≤ p) (h1 : p ≤ 100000) : ∃ r, Ev (fun k => spec_l91Length.f k bs p) (r, p + 3) ∧ 1 ≤ r ∧ r ≤ 60 := by
  simp only [spec_l91Length.f]
  obtain ⟨r1, e1, b1, c1, _⟩ := pick_ev bs p 12 hr (by omega) (by omega) (by omega)
  obtain ⟨r2, e2, b2, c2, _⟩ := pick_ev bs (p + 1) 6 hr (by omega) (by omega) (by omega)
  obtain ⟨r3, e3, b3, c3, _⟩ := pick_ev bs (p + 1 + 1) 48 hr (by omega) (by omega) (by omega)
  have c1 := c1 (by omega)
  have c2 := c2 (by omega)
  have c3 := c3 (by omega)
  have hd : Int.tdiv r2 5 = r2 / 5 := Int.tdiv_eq_ediv_of_nonneg b2
  have hq : wrap64 (Int.tdiv r2 5) = 0 ∨ wrap64 (Int.tdiv r2 5) = 1 := by rw [hd]; unfold wrap64; omega
  refine ⟨wrap64 (wrap64 (1 + r1) + wrap64 (wrap64 (Int.tdiv r2 5) * r3)), Ev.bind e1 (Ev.bind e2 (Ev.bind e3 (ev_some ?_))), ?_⟩
  · show (_, p + 1 + 1 + 1) = (_, p + 3)
    rw [show p + 1 + 1 + 1 = p + 3 by omega]
  · rcases hq with h | h
    · rw [h]; unfold wrap64; omega
    · rw [h]; unfold wrap64; omega

theorem draw_ev (l : List Int) (hb : ∀ x ∈ l, 0 ≤ x ∧ x ≤ 255) : ∃ t, Ev (fun k => spec_DrawStickThree.f k l) t := by
  obtain ⟨bs, ho, hr⟩ := open_ev l hb
  simp only [spec_DrawStickThree.f, ho, Option.bind_some]
  obtain ⟨a, ea, a1, a2⟩ := length_ev bs 0 hr (by omega) (by omega)
  obtain ⟨b, eb, b1, b2⟩ := length_ev bs (0 + 3) hr (by omega) (by omega)
  obtain ⟨q, eq, _⟩ := pick_ev bs (0 + 3 + 3) 2 hr (by omega) (by omega) (by omega)
  by_cases h : q = 0
  · have hm : wrap64 (wrap64 (2 * mn a b) + 1) ≤ 1000000000 := by
      unfold mn wrap64; split <;> omega
    obtain ⟨s, es, _⟩ := pick_ev bs (0 + 3 + 3 + 1) (wrap64 (wrap64 (2 * mn a b) + 1)) hr (by omega) (by omega) hm
    exact ⟨_, Ev.bind ea (Ev.bind eb (Ev.bind eq (ev_pos h (Ev.bind es (Ev.now _)))))⟩
  · obtain ⟨c, ec, _⟩ := length_ev bs (0 + 3 + 3 + 1) hr (by omega) (by omega)
    obtain ⟨d, ed, _⟩ := pick_ev bs (0 + 3 + 3 + 1 + 3) 24 hr (by omega) (by omega) (by omega)
    obtain ⟨e, ee, _⟩ := pick_ev bs (0 + 3 + 3 + 1 + 3 + 1) 24 hr (by omega) (by omega) (by omega)
    exact ⟨_, Ev.bind ea (Ev.bind eb (Ev.bind eq (ev_neg h (Ev.bind ec (Ev.bind ed (Ev.bind ee (Ev.now _)))))))⟩
theorem FnThree : laws_FnThree.Pure := by
  intro l h1 h2 hw
  apply Ev.rounds
  simp only [laws_FnThree.f]
  by_cases c : (l.length : Int) > 1048576
  · exact ev_pos c (Ev.now _)
  · refine ev_neg c ?_
    obtain ⟨⟨x, y, z⟩, hp⟩ := draw_ev l (bytes_in hw)
    refine Ev.bind hp ?_
    simp only [specThree_eq, Option.bind_some]
    refine Ev.bind (implThree_ev x y z) (ev_pos (by simp) (Ev.step (fun k => rfl) ?_))
    simp only [laws_FnThree.j0]
    by_cases h : Three x y z
    · refine ev_neg (by simp [h]) ?_
      have g := h
      unfold Three at g
      refine Ev.bind (implThree_ev y x z) (ev_pos (decide_eq_true ?_) (Ev.bind (implThree_ev z y x) (ev_pos (decide_eq_true ?_) (Ev.bind (implThree_ev _ _ _) (ev_some (decide_eq_true ?_))))))
      · unfold Three; omega
      · unfold Three; omega
      · have hm : 1 ≤ mx x (mx y z) ∧ mx x (mx y z) ≤ 60 := by
          unfold mx; split <;> split <;> omega
        unfold Three; omega
    · exact ev_pos (by simp [h]) (ev_some (by simp))

end Go.Proofs.Ytkolcdknnmgaoaa.Pure
