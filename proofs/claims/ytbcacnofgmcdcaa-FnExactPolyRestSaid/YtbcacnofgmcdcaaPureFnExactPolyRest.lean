/- The pure statement of FnExactPolyRest: for every input the law answers true; no condition. -/
import Derived.Test.YtbcacnofgmcdcaaQFnExactPolyRestx3
namespace Go.Proofs.Ytbcacnofgmcdcaa.Pure
open Go.RowKit Go.Proofs.Ytbcacnofgmcdcaa.QFnExactPolyRest Go.Proofs.YtbcacnofgmcdcaaW.PrintWords Go.Proofs.YtbcacnofgmcdcaaW.PrintLast Go.Proofs.YtbcacnofgmcdcaaW.PrintMore

theorem ev_pos {α : Type} {c : Prop} [Decidable c] {A B : Nat → Option α} {r : α} (h : c) (e : Ev A r) : Ev (fun k => if c then A k else B k) r := by
  simpa only [if_pos h] using e
theorem ev_neg {α : Type} {c : Prop} [Decidable c] {A B : Nat → Option α} {r : α} (h : ¬ c) (e : Ev B r) : Ev (fun k => if c then A k else B k) r := by
  simpa only [if_neg h] using e
theorem ev_eq {α : Type} {A : Nat → Option α} {r r' : α} (h : r = r') (e : Ev A r) : Ev A r' := h ▸ e
theorem ev_some {α : Type} {r r' : α} (h : r = r') : Ev (fun _ => some r) r' := h ▸ Ev.now r
theorem w64 {n : Int} (h0 : -9223372036854775808 ≤ n) (h1 : n ≤ 9223372036854775807) : wrap64 n = n := by unfold wrap64; omega
theorem rd_nat (l : List Int) (i : Nat) : rd l (i : Int) = l.getD i 0 := by simp [rd]
noncomputable def dec (P : Prop) : Bool := @decide P (Classical.propDecidable P)
theorem dec_true {P : Prop} (h : P) : dec P = true := @decide_eq_true P (Classical.propDecidable P) h
theorem dec_false {P : Prop} (h : ¬ P) : dec P = false := @decide_eq_false P (Classical.propDecidable P) h
theorem dec_iff {P : Prop} : dec P = true ↔ P := ⟨fun h => @of_decide_eq_true P (Classical.propDecidable P) h, dec_true⟩
theorem dec_congr {P Q : Prop} (h : P ↔ Q) : dec P = dec Q := by
  by_cases p : P
  · rw [dec_true p, dec_true (h.mp p)]
  · rw [dec_false p, dec_false (fun q => p (h.mpr q))]
theorem dec_dec {P : Prop} [Decidable P] : decide P = dec P := by
  by_cases p : P
  · rw [dec_true p, decide_eq_true p]
  · rw [dec_false p, decide_eq_false p]

theorem l6In_eq (a b c : Int) : spec_l6In.f a b c = some (decide (b ≤ a ∧ a ≤ c)) := by
  unfold spec_l6In.f
  by_cases h : a ≥ b
  · rw [if_pos h]; congr 1; by_cases g : a ≤ c
    · rw [decide_eq_true g, decide_eq_true ⟨h, g⟩]
    · rw [decide_eq_false g, decide_eq_false (fun x => g x.2)]
  · rw [if_neg h, decide_eq_false (fun x => h x.1)]

theorem grid : (List.range 4).all (fun i => (List.range 30).all fun j => decide (laws_FnExactPolyRest.f 200 ((i : Int) + 3) ((j : Int) + 1) = some true)) = true := by decide +kernel
theorem FnExactPolyRest : laws_FnExactPolyRest.Pure := by
  intro n p hn hp
  by_cases c : (3 ≤ n ∧ n ≤ 6) ∧ 1 ≤ p ∧ p ≤ 30
  · refine ⟨200, ?_⟩
    have T := grid
    rw [List.all_eq_true] at T
    have T := T (n - 3).toNat (List.mem_range.mpr (by omega))
    rw [List.all_eq_true] at T
    have := of_decide_eq_true (T (p - 1).toNat (List.mem_range.mpr (by omega)))
    rwa [show (((n - 3).toNat : Nat) : Int) + 3 = n by omega, show (((p - 1).toNat : Nat) : Int) + 1 = p by omega] at this
  · refine ⟨1, ?_⟩
    have hs : spec_PolyRest.f 1 n p = some (0, false) := by
      simp only [spec_PolyRest.f, spec_l3Given.f, l6In_eq, Option.bind_some]
      by_cases h : 3 ≤ n ∧ n ≤ 6
      · rw [if_pos (by simpa using h), Option.bind_some, if_neg (by simp; omega)]
      · rw [if_neg (by simpa using h), Option.bind_some, if_neg (by simp)]
    have hi : impl_PolyRest.f 1 n p = some (0, false) := by
      simp only [impl_PolyRest.f, impl_PolyRest.j0, if_pos]
      by_cases h1 : n < 3
      · rw [if_pos h1]
      · rw [if_neg h1]
        by_cases h2 : n > 6
        · rw [if_pos h2]
        · rw [if_neg h2]
          by_cases h3 : p < 1
          · rw [if_pos h3]
          · rw [if_neg h3, if_pos (by simp; omega)]
    simp [laws_FnExactPolyRest.f, hs, hi]

end Go.Proofs.Ytbcacnofgmcdcaa.Pure
