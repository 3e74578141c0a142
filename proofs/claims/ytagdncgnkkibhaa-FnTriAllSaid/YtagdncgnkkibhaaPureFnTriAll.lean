/- The pure statement of FnTriAll: for every input the law answers true; no condition. -/
import Derived.Test.YtagdncgnkkibhaaQFnTriAllx3
namespace Go.Proofs.Ytagdncgnkkibhaa.Pure
open Go.RowKit Go.Proofs.Ytagdncgnkkibhaa.QFnTriAll Go.Proofs.YtagdncgnkkibhaaW.PrintWords Go.Proofs.YtagdncgnkkibhaaW.PrintLast Go.Proofs.YtagdncgnkkibhaaW.PrintMore

theorem ev_pos {α : Type} {c : Prop} [Decidable c] {A B : Nat → Option α} {r : α} (h : c) (e : Ev A r) : Ev (fun k => if c then A k else B k) r := by
  simpa only [if_pos h] using e
theorem ev_neg {α : Type} {c : Prop} [Decidable c] {A B : Nat → Option α} {r : α} (h : ¬ c) (e : Ev B r) : Ev (fun k => if c then A k else B k) r := by
  simpa only [if_neg h] using e
theorem ev_eq {α : Type} {A : Nat → Option α} {r r' : α} (h : r = r') (e : Ev A r) : Ev A r' := h ▸ e
theorem ev_some {α : Type} {r r' : α} (h : r = r') : Ev (fun _ => some r) r' := h ▸ Ev.now r
theorem w64 {n : Int} (h0 : -9223372036854775808 ≤ n) (h1 : n ≤ 9223372036854775807) : wrap64 n = n := by unfold wrap64; omega
theorem rd_nat (l : List Int) (i : Nat) : rd l (i : Int) = l.getD i 0 := by simp [rd]
noncomputable def dec (P : Prop) : Bool := @decide P (Classical.propDecidable P)
theorem dec_true {P : Prop} (h : P) : dec P = true := @decide_eq_true P (Classical.propDecidable P) h
theorem dec_false {P : Prop} (h : ¬ P) : dec P = false := @decide_eq_false P (Classical.propDecidable P) h
theorem dec_iff {P : Prop} : dec P = true ↔ P := ⟨fun h => @of_decide_eq_true P (Classical.propDecidable P) h, dec_true⟩
theorem dec_congr {P Q : Prop} (h : P ↔ Q) : dec P = dec Q := by
  by_cases p : P
  · rw [dec_true p, dec_true (h.mp p)]
  · rw [dec_false p, dec_false (fun q => p (h.mpr q))]
theorem dec_dec {P : Prop} [Decidable P] : decide P = dec P := by
  by_cases p : P
  · rw [dec_true p, decide_eq_true p]
  · rw [dec_false p, decide_eq_false p]

theorem fin_in {P : Int → Bool} {N : Nat} {lo p : Int} (h : (List.range N).all (fun n => P (lo + (n : Int))) = true) (a : lo ≤ p) (b : p < lo + N) : P p = true := by
  rw [List.all_eq_true] at h
  have := h (p - lo).toNat (List.mem_range.mpr (by omega))
  rwa [show lo + ((p - lo).toNat : Int) = p by omega] at this

theorem l6In_eq (a b c : Int) : spec_l6In.f a b c = some (decide (b ≤ a ∧ a ≤ c)) := by
  unfold spec_l6In.f
  by_cases h : a ≥ b
  · rw [if_pos h]; congr 1; by_cases g : a ≤ c
    · rw [decide_eq_true g, decide_eq_true ⟨h, g⟩]
    · rw [decide_eq_false g, decide_eq_false (fun x => g x.2)]
  · rw [if_neg h, decide_eq_false (fun x => h x.1)]

theorem xor_nat (a b : Nat) (ha : a < 2 ^ 62) (hb : b < 2 ^ 62) : Go.bits .xor .i64 (a : Int) (b : Int) = ((a ^^^ b : Nat) : Int) := by
  have ha' : a % 2 ^ 64 = a := Nat.mod_eq_of_lt (Nat.lt_of_lt_of_le ha (by decide))
  have hb' : b % 2 ^ 64 = b := Nat.mod_eq_of_lt (Nat.lt_of_lt_of_le hb (by decide))
  have hx : a ^^^ b < 2 ^ 62 := Nat.xor_lt_two_pow ha hb
  show IntKind.i64.wrap (((BitVec.ofInt 64 (a : Int) ^^^ BitVec.ofInt 64 (b : Int)).toNat : Nat) : Int) = _
  rw [BitVec.ofInt_natCast, BitVec.ofInt_natCast, BitVec.toNat_xor, BitVec.toNat_ofNat, BitVec.toNat_ofNat, ha', hb', IntKind.wrap_i64]
  have : (2 : Nat) ^ 62 = 4611686018427387904 := by decide
  omega
theorem xor_pos {a b : Int} (ha : 0 ≤ a) (hb : 0 ≤ b) (ha1 : a < 4611686018427387904) (hb1 : b < 4611686018427387904) : 0 ≤ Go.bits .xor .i64 a b := by
  obtain ⟨x, rfl⟩ := Int.eq_ofNat_of_zero_le ha
  obtain ⟨y, rfl⟩ := Int.eq_ofNat_of_zero_le hb
  have e : (2 : Nat) ^ 62 = 4611686018427387904 := by decide
  rw [xor_nat x y (by omega) (by omega)]
  exact Int.natCast_nonneg _
def Rdr (bs : List Int) : Prop := bs.length ≤ 2000 ∧ ∀ i : Int, 0 ≤ rd bs i ∧ rd bs i ≤ 255
theorem rdr_of {bs : List Int} (h : bs.length ≤ 2000) (hb : ∀ x ∈ bs, 0 ≤ x ∧ x ≤ 255) : Rdr bs := by
  refine ⟨h, fun i => ?_⟩
  unfold rd
  rw [List.getD_eq_getElem?_getD]
  by_cases g : i.toNat < bs.length
  · rw [List.getElem?_eq_getElem g]; exact hb _ (List.getElem_mem g)
  · rw [List.getElem?_eq_none (by omega)]; simp
theorem tmod_in {a n : Int} (ha : 0 ≤ a) (hn : 0 < n) : 0 ≤ Int.tmod a n ∧ Int.tmod a n < n := by
  rw [Int.tmod_eq_emod_of_nonneg ha]
  exact ⟨Int.emod_nonneg _ (by omega), Int.emod_lt_of_pos _ hn⟩
theorem pick_ev (bs : List Int) (p n : Int) (hr : Rdr bs) (h0 : 0 ≤ p) (h1 : p ≤ 1000000) (hn : n ≤ 1000000000) :
    ∃ r, Ev (fun k => spec_l6Rd_pick.f k bs p n) (r, p + 1) ∧ 0 ≤ r ∧ (1 ≤ n → r < n) ∧ (n < 1 → r = 0) := by
  have hw : wrap64 (p + 1) = p + 1 := w64 (by omega) (by omega)
  simp only [spec_l6Rd_pick.f, hw]
  by_cases c : n < 1
  · refine ⟨0, ev_pos c (Ev.step (fun k => rfl) ?_), by omega, by omega, fun _ => rfl⟩
    simp only [spec_l6Rd_pick.j0]
    exact ev_pos (by simp) (Ev.now _)
  · by_cases e : bs.length = 0
    · refine ⟨0, ev_neg c (Ev.step (fun k => rfl) ?_), by omega, by omega, by omega⟩
      simp only [spec_l6Rd_pick.j0]
      exact ev_pos (by simp [e]) (Ev.now _)
    · have hw2 : wrap64 (p + 1 - 1) = p := by rw [w64 (by omega) (by omega)]; omega
      have hnz : ¬ ((bs.length : Int) == 0) = true := by simp; exact fun h => e (by rw [h]; rfl)
      by_cases g : p < bs.length
      · have b := hr.2 p
        have hm := tmod_in b.1 (show 0 < n by omega)
        refine ⟨Int.tmod (rd bs p) n, ev_neg c (Ev.step (fun k => rfl) ?_), hm.1, fun _ => hm.2, by omega⟩
        simp only [spec_l6Rd_pick.j0, hw2]
        rw [w64 (n := rd bs p) (by omega) (by omega)]
        exact ev_neg hnz (ev_pos g (ev_pos h0 (ev_neg (by omega) (Ev.now _))))
      · have hl : 0 < (bs.length : Int) := by omega
        have hl2 := hr.1
        have m1 := tmod_in h0 hl
        have m2 := tmod_in (show 0 ≤ p * 7 + 3 by omega) hl
        have b1 := hr.2 (Int.tmod p bs.length)
        have b2 := hr.2 (Int.tmod (p * 7 + 3) bs.length)
        have q0 : 0 ≤ Int.tdiv p bs.length := Int.tdiv_nonneg h0 (by omega)
        have q1 : Int.tdiv p bs.length ≤ p := by
          rw [Int.tdiv_eq_ediv_of_nonneg h0]; exact Int.ediv_le_self _ h0
        generalize hA : rd bs (Int.tmod p bs.length) = A at b1
        generalize hB : rd bs (Int.tmod (p * 7 + 3) bs.length) = B at b2
        generalize hC : Int.tdiv p bs.length = C at q0 q1
        have hX : wrap64 (wrap64 (wrap64 (wrap64 A * 131) + wrap64 (wrap64 B * 1117)) + wrap64 (p * 29)) = A * 131 + B * 1117 + p * 29 := by
          unfold wrap64; omega
        have hY : wrap64 ((A * 131 + B * 1117 + p * 29) + wrap64 (wrap64 C * 53)) = A * 131 + B * 1117 + p * 29 + C * 53 := by
          unfold wrap64; omega
        have hD : wrap64 (Int.tdiv (A * 131 + B * 1117 + p * 29 + C * 53) 64) = (A * 131 + B * 1117 + p * 29 + C * 53) / 64 := by
          rw [Int.tdiv_eq_ediv_of_nonneg (by omega)]; unfold wrap64; omega
        have hx := xor_pos (a := A * 131 + B * 1117 + p * 29 + C * 53) (b := (A * 131 + B * 1117 + p * 29 + C * 53) / 64) (by omega) (by omega) (by omega) (by omega)
        have hm := tmod_in hx (show 0 < n by omega)
        refine ⟨_, ev_neg c (Ev.step (fun k => rfl) ?_), hm.1, fun _ => hm.2, by omega⟩
        simp only [spec_l6Rd_pick.j0, hw2, w64 (n := p * 7) (by omega) (by omega), w64 (n := p * 7 + 3) (by omega) (by omega), hA, hB, hC, hX, hY, hD]
        exact ev_neg hnz (ev_neg g (ev_neg (by omega) (ev_pos m1.1 (ev_pos m1.2 (ev_pos m2.1 (ev_pos m2.2 (ev_neg (by omega) (Ev.now _))))))))
theorem open_ev (l : List Int) (hb : ∀ x ∈ l, 0 ≤ x ∧ x ≤ 255) : ∃ bs, spec_l6Open.f l = some (bs, 0) ∧ Rdr bs := by
  unfold spec_l6Open.f
  by_cases c : (l.length : Int) > 2000
  · refine ⟨l.take 2000, ?_, rdr_of (by simp; omega) (fun x hx => hb x (List.mem_of_mem_take hx))⟩
    rw [if_pos c, if_pos (by omega)]
  · exact ⟨l, by rw [if_neg c], rdr_of (by omega) hb⟩
theorem bytes_in {l : List Int} (h : ∀ x ∈ l, (Lit.int .u8 x).wf = true) : ∀ x ∈ l, 0 ≤ x ∧ x ≤ 255 := by
  intro x hx
  have := h x hx
  simp [Lit.wf, IntKind.min, IntKind.max, IntKind.bits, IntKind.signed] at this
  omega

theorem round_ev (l : List Int) (hb : ∀ x ∈ l, 0 ≤ x ∧ x ≤ 255) : ∃ p, Ev (fun k => spec_l91Round.f k l) p := by
  obtain ⟨bs, ho, hr⟩ := open_ev l hb
  simp only [spec_l91Round.f, ho, Option.bind_some]
  obtain ⟨r1, e1, _⟩ := pick_ev bs 0 60 hr (by omega) (by omega) (by omega)
  obtain ⟨r2, e2, _⟩ := pick_ev bs (0 + 1) 24 hr (by omega) (by omega) (by omega)
  obtain ⟨r3, e3, _⟩ := pick_ev bs (0 + 1 + 1) 24 hr (by omega) (by omega) (by omega)
  exact ⟨_, Ev.bind e1 (Ev.bind e2 (Ev.bind e3 (Ev.now _)))⟩

def tail (k : Nat) (t154 : Int) : Option Bool := ((impl_TriAll.f k t154).bind fun bt155 => ((spec_TriAll.f k t154).bind fun bt159 => (if (bt155.2 == bt159.2) = true then ((laws_sameRows.f k bt155.1 bt159.1).bind fun t163 => (if t163 = true then (laws_FnTriAll.j0 k t154 bt155.1 bt155.2 bt159.1 bt159.2 (!bt155.2)) else (laws_FnTriAll.j0 k t154 bt155.1 bt155.2 bt159.1 bt159.2 true))) else (laws_FnTriAll.j0 k t154 bt155.1 bt155.2 bt159.1 bt159.2 true))))
theorem tail_mono : ∀ p k, LeO (tail k p) (tail (k + 1) p) := by
  intro p k
  obtain ⟨ih0, ih1⟩ := laws_FnTriAll.mono_l k
  unfold tail
  repeat' first
    | (with_reducible exact ih0 _ _ _ _ _ _)
    | (with_reducible exact ih1 _ _ _)
    | (with_reducible exact impl_TriAll.mono _ _)
    | (with_reducible exact laws_sameRows.mono _ _ _)
    | (with_reducible exact spec_TriAll.mono _ _)
    | (with_reducible exact LeO.refl _)
    | (with_reducible exact LeO.none _)
    | (with_reducible refine LeO.ite ?_ ?_)
    | (with_reducible refine LeO.bind ?_ (fun _ => ?_))
theorem nil_rows (k : Nat) : laws_sameRows.f (k + 1) [] [] = some true := by
  simp [laws_sameRows.f, laws_sameRows.l0]
theorem tail_any (p : Int) : Ev (fun k => tail k p) true := by
  by_cases h : 1 ≤ p ∧ p ≤ 60
  · have T : (List.range 60).all (fun n => (fun q => decide (tail 4000 q = some true)) (1 + (n : Int))) = true := by decide +kernel
    exact Ev.of (tail_mono p) (of_decide_eq_true (fin_in (P := fun q => decide (tail 4000 q = some true)) T h.1 (by omega)))
  · refine Ev.of (tail_mono p) (k := 9) ?_
    by_cases g : p < 1
    · simp [tail, laws_FnTriAll.j0, impl_TriAll.f, impl_TriAll.j0, nil_rows 8, nil_rows 7, spec_TriAll.f, l6In_eq, g, h]
    · simp [tail, laws_FnTriAll.j0, impl_TriAll.f, impl_TriAll.j0, nil_rows 8, nil_rows 7, spec_TriAll.f, l6In_eq, g, h, show p > 60 by omega]
theorem FnTriAll : laws_FnTriAll.Pure := by
  intro l h1 h2 hw
  apply Ev.rounds
  simp only [laws_FnTriAll.f, spec_DrawTriAll.f]
  by_cases c : (l.length : Int) > 1048576
  · exact ev_pos c (Ev.now _)
  · obtain ⟨p, hp⟩ := round_ev l (bytes_in hw)
    exact ev_neg c (Ev.bind (Ev.bind hp (Ev.now _)) (tail_any p))

end Go.Proofs.Ytagdncgnkkibhaa.Pure
