/- The pure statement of FnExactTriWhole: for every input the law answers true; no condition. -/
import Derived.Test.YtagdncgnkkibhaaQFnExactTriWholex4
namespace Go.Proofs.Ytagdncgnkkibhaa.Pure
open Go.RowKit Go.Proofs.Ytagdncgnkkibhaa.QFnExactTriWhole Go.Proofs.YtagdncgnkkibhaaW.PrintWords Go.Proofs.YtagdncgnkkibhaaW.PrintLast Go.Proofs.YtagdncgnkkibhaaW.PrintMore

theorem ev_pos {α : Type} {c : Prop} [Decidable c] {A B : Nat → Option α} {r : α} (h : c) (e : Ev A r) : Ev (fun k => if c then A k else B k) r := by
  simpa only [if_pos h] using e
theorem ev_neg {α : Type} {c : Prop} [Decidable c] {A B : Nat → Option α} {r : α} (h : ¬ c) (e : Ev B r) : Ev (fun k => if c then A k else B k) r := by
  simpa only [if_neg h] using e
theorem ev_eq {α : Type} {A : Nat → Option α} {r r' : α} (h : r = r') (e : Ev A r) : Ev A r' := h ▸ e
theorem ev_some {α : Type} {r r' : α} (h : r = r') : Ev (fun _ => some r) r' := h ▸ Ev.now r
theorem w64 {n : Int} (h0 : -9223372036854775808 ≤ n) (h1 : n ≤ 9223372036854775807) : wrap64 n = n := by unfold wrap64; omega
theorem rd_nat (l : List Int) (i : Nat) : rd l (i : Int) = l.getD i 0 := by simp [rd]
noncomputable def dec (P : Prop) : Bool := @decide P (Classical.propDecidable P)
theorem dec_true {P : Prop} (h : P) : dec P = true := @decide_eq_true P (Classical.propDecidable P) h
theorem dec_false {P : Prop} (h : ¬ P) : dec P = false := @decide_eq_false P (Classical.propDecidable P) h
theorem dec_iff {P : Prop} : dec P = true ↔ P := ⟨fun h => @of_decide_eq_true P (Classical.propDecidable P) h, dec_true⟩
theorem dec_congr {P Q : Prop} (h : P ↔ Q) : dec P = dec Q := by
  by_cases p : P
  · rw [dec_true p, dec_true (h.mp p)]
  · rw [dec_false p, dec_false (fun q => p (h.mpr q))]
theorem dec_dec {P : Prop} [Decidable P] : decide P = dec P := by
  by_cases p : P
  · rw [dec_true p, decide_eq_true p]
  · rw [dec_false p, decide_eq_false p]

theorem fin_in {P : Int → Bool} {N : Nat} {lo p : Int} (h : (List.range N).all (fun n => P (lo + (n : Int))) = true) (a : lo ≤ p) (b : p < lo + N) : P p = true := by
  rw [List.all_eq_true] at h
  have := h (p - lo).toNat (List.mem_range.mpr (by omega))
  rwa [show lo + ((p - lo).toNat : Int) = p by omega] at this

theorem l6In_eq (a b c : Int) : spec_l6In.f a b c = some (decide (b ≤ a ∧ a ≤ c)) := by
  unfold spec_l6In.f
  by_cases h : a ≥ b
  · rw [if_pos h]; congr 1; by_cases g : a ≤ c
    · rw [decide_eq_true g, decide_eq_true ⟨h, g⟩]
    · rw [decide_eq_false g, decide_eq_false (fun x => g x.2)]
  · rw [if_neg h, decide_eq_false (fun x => h x.1)]

set_option maxHeartbeats 8000000 in
theorem ok1 : (List.range 24).all (fun n => (fun q => decide (laws_FnExactTriWhole.f 30000 q = some true)) (1 + (n : Int))) = true := by decide +kernel
set_option maxHeartbeats 8000000 in
theorem ok25 : (List.range 10).all (fun n => (fun q => decide (laws_FnExactTriWhole.f 30000 q = some true)) (25 + (n : Int))) = true := by decide +kernel
set_option maxHeartbeats 8000000 in
theorem ok35 : (List.range 8).all (fun n => (fun q => decide (laws_FnExactTriWhole.f 30000 q = some true)) (35 + (n : Int))) = true := by decide +kernel
set_option maxHeartbeats 8000000 in
theorem ok43 : (List.range 6).all (fun n => (fun q => decide (laws_FnExactTriWhole.f 30000 q = some true)) (43 + (n : Int))) = true := by decide +kernel
set_option maxHeartbeats 8000000 in
theorem ok49 : (List.range 5).all (fun n => (fun q => decide (laws_FnExactTriWhole.f 30000 q = some true)) (49 + (n : Int))) = true := by decide +kernel
set_option maxHeartbeats 8000000 in
theorem ok54 : (List.range 4).all (fun n => (fun q => decide (laws_FnExactTriWhole.f 30000 q = some true)) (54 + (n : Int))) = true := by decide +kernel
set_option maxHeartbeats 8000000 in
theorem ok58 : (List.range 3).all (fun n => (fun q => decide (laws_FnExactTriWhole.f 30000 q = some true)) (58 + (n : Int))) = true := by decide +kernel
theorem allok {p : Int} (h : 1 ≤ p ∧ p ≤ 60) : (fun q => decide (laws_FnExactTriWhole.f 30000 q = some true)) p = true := by
  by_cases c24 : p ≤ 24
  · exact fin_in (P := (fun q => decide (laws_FnExactTriWhole.f 30000 q = some true))) ok1 (by omega) (by omega)
  by_cases c34 : p ≤ 34
  · exact fin_in (P := (fun q => decide (laws_FnExactTriWhole.f 30000 q = some true))) ok25 (by omega) (by omega)
  by_cases c42 : p ≤ 42
  · exact fin_in (P := (fun q => decide (laws_FnExactTriWhole.f 30000 q = some true))) ok35 (by omega) (by omega)
  by_cases c48 : p ≤ 48
  · exact fin_in (P := (fun q => decide (laws_FnExactTriWhole.f 30000 q = some true))) ok43 (by omega) (by omega)
  by_cases c53 : p ≤ 53
  · exact fin_in (P := (fun q => decide (laws_FnExactTriWhole.f 30000 q = some true))) ok49 (by omega) (by omega)
  by_cases c57 : p ≤ 57
  · exact fin_in (P := (fun q => decide (laws_FnExactTriWhole.f 30000 q = some true))) ok54 (by omega) (by omega)
  exact fin_in (P := (fun q => decide (laws_FnExactTriWhole.f 30000 q = some true))) ok58 (by omega) (by omega)
theorem FnExactTriWhole : laws_FnExactTriWhole.Pure := by
  intro p _
  by_cases h : 1 ≤ p ∧ p ≤ 60
  · have R := allok h
    exact ⟨30000, of_decide_eq_true R⟩
  · have e1 : ∀ k, spec_TriWhole.f k p = some ([], false) := fun k => by simp [spec_TriWhole.f, l6In_eq, h]
    have e2 : ∀ k, impl_TriAll.f (k + 1) p = some ([], false) := fun k => by
      simp only [impl_TriAll.f, impl_TriAll.j0]
      by_cases g : p < 1
      · simp [g]
      · simp [g, show p > 60 by omega]
    have e6 : ∀ k, impl_TriWhole.f (k + 1) p = some ([], false) := fun k => by simp [impl_TriWhole.f, e2]
    have e3 : ∀ k, laws_eqIntSS.f (k + 1) [] [] = some true := fun k => by simp [laws_eqIntSS.f, laws_eqIntSS.l0]
    have e4 : ∀ k, laws_markIntSS.f (k + 1) [] 1 = some (1, []) := fun k => by simp [laws_markIntSS.f, laws_markIntSS.l0]
    have e5 : ∀ k, laws_heldIntSS.f (k + 1) [] 1 = some 1 := fun k => by simp [laws_heldIntSS.f, laws_heldIntSS.l0]
    refine ⟨9, ?_⟩
    simp [laws_FnExactTriWhole.f, laws_FnExactTriWhole.j0, laws_FnExactTriWhole.j1, e1, e6 8, e6 7, e3 8, e3 7, e4 7, e5 7, e5 6]

end Go.Proofs.Ytagdncgnkkibhaa.Pure
