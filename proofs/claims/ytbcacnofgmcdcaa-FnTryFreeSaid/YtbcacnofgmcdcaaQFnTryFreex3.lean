-- Written by a program of this session (wip/myprint.py, over the kit's print) for the law FnTryFree.
import Derived.Test.YtbcacnofgmcdcaaQFnTryFreex0
import Derived.Test.YtbcacnofgmcdcaaQFnTryFreex2
namespace Go.Proofs.Ytbcacnofgmcdcaa.QFnTryFree
open Go.RowKit Go.Proofs.YtbcacnofgmcdcaaW.PrintWords Go.Proofs.YtbcacnofgmcdcaaW.PrintLast Go.Proofs.YtbcacnofgmcdcaaW.PrintMore
attribute [local go_sem] max2_int min2_int max_two min_two max_three min_three max_four min_four   -- for this text's walks alone
set_option linter.unusedVariables false
set_option linter.unusedSimpArgs false

/-! ### impl_StickMany: function 25 -/
/-! ### small words of this session: frames of one written variable -/
theorem gb_refl (w : World) (row : Option Nat) : w.grownBy w row := ⟨rfl, rfl, rfl, Nat.le_refl _, fun _ _ _ => rfl⟩
theorem gb_drewN {a w : World} {row : Option Nat} (h : a.grownBy w row) (n : Nat) : a.grownBy (w.drewN n) row := ⟨h.os, h.tape, h.output, h.size, h.block⟩
theorem gb_setCell {a w : World} {g : Nat} (h : a.grownBy w (some g)) (u : Value) : a.grownBy (w.setCell ⟨g, 0, none⟩ u) (some g) :=
  ⟨h.os, h.tape, h.output, by simpa [World.setCell] using h.size, fun i hi hne => (Below.heap_setCell w ⟨g, 0, none⟩ u i (fun e => hne (by rw [e]))).trans (h.block i hi hne)⟩
theorem gb_lt {w : World} {b : Nat} {o : Obj} (h : w.heap[b]? = some o) : b < w.heap.size := (Array.getElem?_eq_some_iff.1 h).1
theorem one_set {w : World} {g : Nat} {u v : Value} {t : TypeId} (h : w.heap[g]? = some (.cells #[u] t (0, 0))) : (w.setCell ⟨g, 0, none⟩ v).heap[g]? = some (.cells #[v] t (0, 0)) := one_setCell h

theorem gb_trans {a b c : World} {row : Option Nat} (h : a.grownBy b row) (k : b.grownBy c row) : a.grownBy c row :=
  ⟨k.os.trans h.os, k.tape.trans h.tape, k.output.trans h.output, Nat.le_trans h.size k.size, fun i hi hne => (k.block i (Nat.lt_of_lt_of_le hi h.size) hne).trans (h.block i hi hne)⟩
theorem gb_drew {a w : World} {row : Option Nat} (h : a.grownBy w row) : a.grownBy w.drew row := ⟨h.os, h.tape, h.output, h.size, h.block⟩
theorem blk_new (w : World) (o : Obj) {g : Nat} (h : w.heap.size = g) : (w.alloc o).heap[g]? = some o := by
  subst h
  show (w.heap.push o)[_]? = _
  simp
theorem blk_two (w : World) (o o2 : Obj) (n : Nat) : (((w.alloc o).drewN n).alloc o2).heap[w.heap.size]? = some o := by
  show ((w.heap.push o).push o2)[_]? = _
  simp [Array.getElem?_push]
def impl_StickMany.step (l : List Int) (x y z m : Int) : Int := if rd l z < wrap64 (rd l x + rd l y) then wrap64 (m + 1) else m
mutual
def impl_StickMany.l0 : Nat → List Int → Int → Int → Option Int
  | 0, _, _, _ => none
  | k + 1, l, x, m => if x < (l.length : Int) then impl_StickMany.l1 k l x (wrap64 (x + 1)) m else some m
def impl_StickMany.l1 : Nat → List Int → Int → Int → Int → Option Int
  | 0, _, _, _, _ => none
  | k + 1, l, x, y, m => if y < (l.length : Int) then impl_StickMany.l2 k l x y (wrap64 (y + 1)) m else impl_StickMany.l0 k l (wrap64 (x + 1)) m
def impl_StickMany.l2 : Nat → List Int → Int → Int → Int → Int → Option Int
  | 0, _, _, _, _, _ => none
  | k + 1, l, x, y, z, m => if z < (l.length : Int) then (if 0 ≤ x ∧ x < (l.length : Int) ∧ 0 ≤ y ∧ y < (l.length : Int) ∧ 0 ≤ z then impl_StickMany.l2 k l x y (wrap64 (z + 1)) (impl_StickMany.step l x y z m) else none) else impl_StickMany.l1 k l x (wrap64 (y + 1)) m
end
set_option maxHeartbeats 1000000 in
set_option maxRecDepth 100000 in
theorem impl_StickMany.clo_yes (A : Option Addr) (c : Nat) (l : List Int) (Ba Bn : Nat) (x y z m : Int) (w : World)
    (hr : Kd.C (Kd.int .i64) w A l.length l) (hA : w.heap[Ba]? = some (.cells #[.slice A l.length c] 29 (0, 0))) (hN : w.heap[Bn]? = some (.cells #[.int .i64 m] 3 (0, 0)))
    (hx0 : 0 ≤ x) (hx : x < (l.length : Int)) (hy0 : 0 ≤ y) (hy : y < (l.length : Int)) (hz0 : 0 ≤ z) (hz : z < (l.length : Int))
    (h : rd l z < wrap64 (rd l x + rd l y)) :
    Calls Try.prog 52 #[.int .i64 x, .int .i64 y, .int .i64 z, .pointer (some ⟨Ba, 0, none⟩), .pointer (some ⟨Bn, 0, none⟩)] w fun e w' => e = .returned (.tuple #[]) ∧ ∃ q, w' = (w.setCell ⟨Bn, 0, none⟩ (.int .i64 (wrap64 (m + 1)))).drewN q := by
  have cA := cell_of_one hA
  have cN := cell_of_one hN
  have fN := free_of_one hN
  obtain ⟨ax, ex, cx⟩ := Kd.at_int hr x hx0 hx
  cases ex
  obtain ⟨ay, ey, cy⟩ := Kd.at_int hr y hy0 hy
  cases ey
  obtain ⟨az, ez, cz⟩ := Kd.at_int hr z hz0 hz
  cases ez
  have hd : decide (rd l z < wrap64 (rd l x + rd l y)) = true := decide_eq_true h
  clear h hA hN hr
  replace hx0 := eq_true hx0
  replace hx := eq_true hx
  replace hy0 := eq_true hy0
  replace hy := eq_true hy
  replace hz0 := eq_true hz0
  replace hz := eq_true hz
  go_enter Try.func52, Try.ntmps52
  go_wp2
  repeat (go_quiet (fail); go_wp2)
  go_end0
  exact ⟨by first | rfl | (simp; done), _, by first | rfl | (simp [i64_w]; done)⟩
set_option maxHeartbeats 1000000 in
set_option maxRecDepth 100000 in
theorem impl_StickMany.clo_no (A : Option Addr) (c : Nat) (l : List Int) (Ba Bn : Nat) (x y z m : Int) (w : World)
    (hr : Kd.C (Kd.int .i64) w A l.length l) (hA : w.heap[Ba]? = some (.cells #[.slice A l.length c] 29 (0, 0))) (hN : w.heap[Bn]? = some (.cells #[.int .i64 m] 3 (0, 0)))
    (hx0 : 0 ≤ x) (hx : x < (l.length : Int)) (hy0 : 0 ≤ y) (hy : y < (l.length : Int)) (hz0 : 0 ≤ z) (hz : z < (l.length : Int))
    (h : ¬ rd l z < wrap64 (rd l x + rd l y)) :
    Calls Try.prog 52 #[.int .i64 x, .int .i64 y, .int .i64 z, .pointer (some ⟨Ba, 0, none⟩), .pointer (some ⟨Bn, 0, none⟩)] w fun e w' => e = .returned (.tuple #[]) ∧ ∃ q, w' = w.drewN q := by
  have cA := cell_of_one hA
  have cN := cell_of_one hN
  have fN := free_of_one hN
  obtain ⟨ax, ex, cx⟩ := Kd.at_int hr x hx0 hx
  cases ex
  obtain ⟨ay, ey, cy⟩ := Kd.at_int hr y hy0 hy
  cases ey
  obtain ⟨az, ez, cz⟩ := Kd.at_int hr z hz0 hz
  cases ez
  have hd : decide (rd l z < wrap64 (rd l x + rd l y)) = false := decide_eq_false h
  clear h hA hN hr
  replace hx0 := eq_true hx0
  replace hx := eq_true hx
  replace hy0 := eq_true hy0
  replace hy := eq_true hy
  replace hz0 := eq_true hz0
  replace hz := eq_true hz
  go_enter Try.func52, Try.ntmps52
  go_wp2
  repeat (go_quiet (fail); go_wp2)
  go_end0
  exact ⟨by first | rfl | (simp; done), _, by first | rfl | (simp [i64_w]; done)⟩
theorem impl_StickMany.clo (A : Option Addr) (c : Nat) (l : List Int) (Ba Bn : Nat) (x y z m : Int) (w : World)
    (hr : Kd.C (Kd.int .i64) w A l.length l) (hA : w.heap[Ba]? = some (.cells #[.slice A l.length c] 29 (0, 0))) (hN : w.heap[Bn]? = some (.cells #[.int .i64 m] 3 (0, 0)))
    (hx0 : 0 ≤ x) (hx : x < (l.length : Int)) (hy0 : 0 ≤ y) (hy : y < (l.length : Int)) (hz0 : 0 ≤ z) (hz : z < (l.length : Int)) :
    Calls Try.prog 52 #[.int .i64 x, .int .i64 y, .int .i64 z, .pointer (some ⟨Ba, 0, none⟩), .pointer (some ⟨Bn, 0, none⟩)] w fun e w' => e = .returned (.tuple #[]) ∧ w.grownBy w' (some Bn) ∧ w'.heap[Bn]? = some (.cells #[.int .i64 (impl_StickMany.step l x y z m)] 3 (0, 0)) := by
  by_cases h : rd l z < wrap64 (rd l x + rd l y)
  · refine (impl_StickMany.clo_yes A c l Ba Bn x y z m w hr hA hN hx0 hx hy0 hy hz0 hz h).mono ?_
    rintro e w' ⟨rfl, q, rfl⟩
    refine ⟨rfl, gb_drewN (gb_setCell (gb_refl _ _) _) q, ?_⟩
    rw [show impl_StickMany.step l x y z m = wrap64 (m + 1) from if_pos h]
    exact one_set hN
  · refine (impl_StickMany.clo_no A c l Ba Bn x y z m w hr hA hN hx0 hx hy0 hy hz0 hz h).mono ?_
    rintro e w' ⟨rfl, q, rfl⟩
    refine ⟨rfl, gb_drewN (gb_refl _ _) q, ?_⟩
    rw [show impl_StickMany.step l x y z m = m from if_neg h]
    exact hN
set_option maxHeartbeats 4000000 in
set_option maxRecDepth 100000 in
theorem impl_StickMany.thr (k : Nat) (A : Option Addr) (c : Nat) (l : List Int) (Ba Bn : Nat) (m r : Int) (w : World) (hne : Ba ≠ Bn)
    (hC : ∀ W, w.grownBy W (some Bn) → Kd.C (Kd.int .i64) W A l.length l) (hA : w.heap[Ba]? = some (.cells #[.slice A l.length c] 29 (0, 0))) (hN : w.heap[Bn]? = some (.cells #[.int .i64 m] 3 (0, 0)))
    (h : impl_StickMany.l0 k l 0 m = some r) :
    Calls Try.prog 49 #[.slice A l.length c, .func (.func 52) #[] #[.pointer (some ⟨Ba, 0, none⟩), .pointer (some ⟨Bn, 0, none⟩)]] w fun e w' => e = .returned (.tuple #[]) ∧ w.grownBy w' (some Bn) ∧ w'.heap[Bn]? = some (.cells #[.int .i64 r] 3 (0, 0)) := by
  have HC := Aside0.mk hC
  have HA0 := Aside0.mk (show ∀ W, w.grownBy W (some Bn) → W.heap[Ba]? = some (.cells #[.slice A l.length c] 29 (0, 0)) from fun W g => (g.block Ba (gb_lt hA) (fun e => hne (by injection e))).trans hA)
  have HN0 := Aside0.mk hN
  have H' := Aside0.mk h
  clear hC hA hN h
  go_enter Try.func49, Try.ntmps49
  go_wp2
  go_loopg [9] k (fun kq v9 w' => ∃ (x m : Int), v9 = .int .i64 x ∧ Aside0 (impl_StickMany.l0 kq l x m = some r) ∧ Aside0 (kq ≤ k) ∧ Aside0 (w.grownBy w' (some Bn)) ∧ Aside0 (w'.heap[Bn]? = some (.cells #[.int .i64 m] 3 (0, 0))))
  case atStart => exact ⟨0, m, (by first | rfl | (simp; done)), H', ⟨Nat.le_refl _⟩, ⟨gb_refl _ _⟩, HN0⟩
  case round =>
    clear H' HN0
    obtain ⟨x, m, rfl, HH, HK1, HG1, HN1⟩ := hrel
    obtain ⟨w1, rfl⟩ : ∃ w1 : World, w1 = wr := ⟨_, rfl⟩
    cases gk with
    | zero => exact absurd HH.out (by simp [impl_StickMany.l0])
    | succ k1 =>
      have H := HH.out
      clear HH
      simp only [impl_StickMany.l0] at H
      by_cases c1 : x < (l.length : Int)
      · rw [if_pos c1] at H
        have c1b : decide (x < (l.length : Int)) = true := decide_eq_true c1
        clear c1
        have H' := Aside0.mk H
        clear H
        go_wp2
        go_loopg [5] k1 (fun kq v5 w' => ∃ (y m : Int), v5 = .int .i64 y ∧ Aside0 (impl_StickMany.l1 kq l x y m = some r) ∧ Aside0 (kq ≤ k1) ∧ Aside0 (w.grownBy w' (some Bn)) ∧ Aside0 (w'.heap[Bn]? = some (.cells #[.int .i64 m] 3 (0, 0))))
        case atStart => exact ⟨_, m, (by first | rfl | (simp; done)), H', ⟨Nat.le_refl _⟩, HG1, HN1⟩
        case round =>
          clear H' HN1 HG1 c1b
          obtain ⟨y, m, rfl, HH, HK2, HG2, HN2⟩ := hrel
          obtain ⟨w2, rfl⟩ : ∃ w2 : World, w2 = wr := ⟨_, rfl⟩
          cases gk with
          | zero => exact absurd HH.out (by simp [impl_StickMany.l1])
          | succ k2 =>
            have H := HH.out
            clear HH
            simp only [impl_StickMany.l1] at H
            by_cases c2 : y < (l.length : Int)
            · rw [if_pos c2] at H
              have c2b : decide (y < (l.length : Int)) = true := decide_eq_true c2
              clear c2
              have H' := Aside0.mk H
              clear H
              go_wp2
              go_loopg [6] k2 (fun kq v6 w' => ∃ (z m : Int), v6 = .int .i64 z ∧ Aside0 (impl_StickMany.l2 kq l x y z m = some r) ∧ Aside0 (kq ≤ k2) ∧ Aside0 (w.grownBy w' (some Bn)) ∧ Aside0 (w'.heap[Bn]? = some (.cells #[.int .i64 m] 3 (0, 0))))
              case atStart => exact ⟨_, m, (by first | rfl | (simp; done)), H', ⟨Nat.le_refl _⟩, HG2, HN2⟩
              case round =>
                clear H' HN2 HG2 c2b
                obtain ⟨z, m, rfl, HH, HK3, HG3, HN3⟩ := hrel
                obtain ⟨w3, rfl⟩ : ∃ w3 : World, w3 = wr := ⟨_, rfl⟩
                cases gk with
                | zero => exact absurd HH.out (by simp [impl_StickMany.l2])
                | succ k3 =>
                  have H := HH.out
                  clear HH
                  simp only [impl_StickMany.l2] at H
                  by_cases c3 : z < (l.length : Int)
                  · rw [if_pos c3] at H
                    by_cases c4 : 0 ≤ x ∧ x < (l.length : Int) ∧ 0 ≤ y ∧ y < (l.length : Int) ∧ 0 ≤ z
                    · rw [if_pos c4] at H
                      have cl := Aside0.mk (impl_StickMany.clo A c l Ba Bn x y z m w3 (HC.out w3 HG3.out) (HA0.out w3 HG3.out) HN3.out c4.1 c4.2.1 c4.2.2.1 c4.2.2.2.1 c4.2.2.2.2 c3)
                      have c3b : decide (z < (l.length : Int)) = true := decide_eq_true c3
                      clear c3 c4
                      have H' := Aside0.mk H
                      clear H
                      go_wp2_with (go_at_call 52; refine cl.out.mono ?_; rintro e w4 ⟨rfl, hg, hn⟩; have HG4 := Aside0.mk (gb_trans HG3.out hg); have HN4 := Aside0.mk hn; clear hg hn cl)
                      go_roundg k3
                      case measure => have := HK1.out; have := HK2.out; have := HK3.out; omega
                      case rel => exact ⟨_, _, (by first | rfl | (simp; done)), H', ⟨by have := HK1.out; have := HK2.out; have := HK3.out; omega⟩, HG4, HN4⟩
                    · rw [if_neg c4] at H
                      exact absurd H (by simp)
                  · rw [if_neg c3] at H
                    have c3b : decide (z < (l.length : Int)) = false := decide_eq_false c3
                    clear c3
                    have H' := Aside0.mk H
                    clear H
                    go_wp2
                    go_roundg k3
                    case measure => have := HK1.out; have := HK2.out; have := HK3.out; omega
                    case rel => exact ⟨_, _, (by first | rfl | (simp; done)), H', ⟨by have := HK1.out; have := HK2.out; have := HK3.out; omega⟩, HG3, HN3⟩
            · rw [if_neg c2] at H
              have c2b : decide (y < (l.length : Int)) = false := decide_eq_false c2
              clear c2
              have H' := Aside0.mk H
              clear H
              go_wp2
              go_roundg k2
              case measure => have := HK1.out; have := HK2.out; omega
              case rel => exact ⟨_, _, (by first | rfl | (simp; done)), H', ⟨by have := HK1.out; have := HK2.out; omega⟩, HG2, HN2⟩
      · rw [if_neg c1] at H
        have c1b : decide (x < (l.length : Int)) = false := decide_eq_false c1
        clear c1
        obtain rfl := Option.some.inj H
        go_wp2
        go_end0
        exact ⟨rfl, HG1.out, HN1.out⟩
theorem impl_StickMany.mono_l : ∀ k, (∀ a b c, LeO (impl_StickMany.l0 k a b c) (impl_StickMany.l0 (k + 1) a b c)) ∧ (∀ a b c d, LeO (impl_StickMany.l1 k a b c d) (impl_StickMany.l1 (k + 1) a b c d)) ∧ (∀ a b c d e, LeO (impl_StickMany.l2 k a b c d e) (impl_StickMany.l2 (k + 1) a b c d e))
  | 0 => ⟨fun _ _ _ r h => by simp [impl_StickMany.l0] at h, fun _ _ _ _ r h => by simp [impl_StickMany.l1] at h, fun _ _ _ _ _ r h => by simp [impl_StickMany.l2] at h⟩
  | k + 1 => by
    obtain ⟨i0, i1, i2⟩ := impl_StickMany.mono_l k
    refine ⟨fun a b c => ?_, fun a b c d => ?_, fun a b c d e => ?_⟩
    · unfold impl_StickMany.l0
      exact LeO.ite (i1 _ _ _ _) (LeO.refl _)
    · unfold impl_StickMany.l1
      exact LeO.ite (i2 _ _ _ _ _) (i0 _ _ _)
    · unfold impl_StickMany.l2
      exact LeO.ite (LeO.ite (i2 _ _ _ _ _) (LeO.none _)) (i1 _ _ _ _)
def impl_StickMany.f (k : Nat) (l0 : List Int) : Option (Int × Bool) := (impl_StickIn.f k l0).bind fun t => (if t = true then ((impl_StickMany.l0 k l0 0 0).bind fun m => some (m, true)) else (some (0, false)))
theorem impl_StickMany.mono : ∀ a0 k, LeO (impl_StickMany.f k a0) (impl_StickMany.f (k + 1) a0) := by
  intro a0 k
  unfold impl_StickMany.f
  exact LeO.bind (impl_StickIn.mono _ _) (fun _ => LeO.ite (LeO.bind ((impl_StickMany.mono_l k).1 _ _ _) (fun _ => LeO.refl _)) (LeO.refl _))
set_option maxHeartbeats 2000000 in
set_option maxRecDepth 100000 in
theorem impl_StickMany.calls_no (k : Nat) (A0 : Option Addr) (c0 : Nat) (l0 : List Int) (w : World) (hr0 : Kd.C (Kd.int .i64) w A0 l0.length l0) (hc0 : l0.length ≤ c0) (h : impl_StickIn.f k l0 = some false) :
    Calls Try.prog 25 #[.slice A0 l0.length c0] w fun e w' => e = .returned (.tuple #[.int .i64 0, .bool false]) ∧ Below w.heap.size w w' := by
  have HR0 := Aside0.mk hr0
  have HC0 := Aside0.mk hc0
  have HL := Aside0.mk h
  have HB := Aside0.mk (Below.refl w.heap.size w)
  clear hr0 hc0 h
  go_enter Try.func25, Try.ntmps25
  go_wp2_with (go_at_call 48; refine (impl_StickIn.calls k A0 c0 l0 false _ ?s1 ?s2 HL.out).mono ?_; (case s1 => repeat (first | exact HR0.out | (with_reducible refine Kd.C_alloc ?_ _))); (case s2 => exact HC0.out); rintro e w' ⟨rfl, ⟨nd, rfl⟩⟩)
  go_ret2
  exact ⟨by first | rfl | (simp; done), by repeat (first | exact HB.out | apply below_alloc | apply pw_below_drewN)⟩
set_option maxHeartbeats 2000000 in
set_option maxRecDepth 100000 in
theorem impl_StickMany.calls_yes (k : Nat) (A0 : Option Addr) (c0 : Nat) (l0 : List Int) (m : Int) (w : World) (hr0 : Kd.C (Kd.int .i64) w A0 l0.length l0) (hc0 : l0.length ≤ c0) (h0 : impl_StickIn.f k l0 = some true) (h : impl_StickMany.l0 k l0 0 0 = some m) :
    Calls Try.prog 25 #[.slice A0 l0.length c0] w fun e w' => e = .returned (.tuple #[.int .i64 m, .bool true]) ∧ Below w.heap.size w w' := by
  have HR0 := Aside0.mk hr0
  have HC0 := Aside0.mk hc0
  have HI := Aside0.mk h0
  have HL := Aside0.mk h
  have HB := Aside0.mk (Below.refl w.heap.size w)
  clear hr0 hc0 h h0
  go_enter Try.func25, Try.ntmps25
  go_wp2_with (first
    | (go_at_call 48; refine (impl_StickIn.calls k A0 c0 l0 true _ ?s1 ?s2 HI.out).mono ?_; (case s1 => repeat (first | exact HR0.out | (with_reducible refine Kd.C_alloc ?_ _))); (case s2 => exact HC0.out); rintro e w' ⟨rfl, ⟨nd, rfl⟩⟩)
    | (go_at_call 49; refine (impl_StickMany.thr k A0 c0 l0 w.heap.size (w.heap.size + 1) 0 m _ (by omega) ?hC ?hA ?hN HL.out).mono ?_; (case hC => exact fun W g => Kd.C_below HR0.out (pw_below_grown (by repeat (first | exact HB.out | apply below_alloc | apply pw_below_drewN)) _ (by simp; omega) g (fun k_ e_ => by injection e_ with e_; omega))); (case hA => exact blk_two _ _ _ _); (case hN => exact blk_new _ _ (by simp)); rintro e w4 ⟨rfl, hg, hn⟩; have cN := cell_of_one hn; have HB2 := Aside0.mk (pw_below_grown (show Below w.heap.size w _ by repeat (first | exact HB.out | apply below_alloc | apply pw_below_drewN)) _ (by simp; omega) hg (fun k_ e_ => by injection e_ with e_; omega)); clear hg hn))
  go_ret2
  exact ⟨by first | rfl | (simp; done), by repeat (first | exact HB2.out | apply below_alloc | apply pw_below_drewN | apply below_drew1)⟩
theorem impl_StickMany.calls (k : Nat) (A0 : Option Addr) (c0 : Nat) (l0 : List Int) (r1 : Int) (r2 : Bool) (w : World) (hr0 : Kd.C (Kd.int .i64) w A0 l0.length l0) (hc0 : l0.length ≤ c0) (h : impl_StickMany.f k l0 = some (r1, r2)) :
    Calls Try.prog 25 #[.slice A0 l0.length c0] w fun e w' => e = .returned (.tuple #[.int .i64 r1, .bool r2]) ∧ Below w.heap.size w w' := by
  unfold impl_StickMany.f at h
  obtain ⟨t, hA, h⟩ := Option.bind_eq_some_iff.mp h
  by_cases c : t = true
  · subst c
    rw [if_pos rfl] at h
    obtain ⟨m, hm, h⟩ := Option.bind_eq_some_iff.mp h
    simp only [Option.some.injEq, Prod.mk.injEq] at h
    obtain ⟨rfl, rfl⟩ := h
    exact impl_StickMany.calls_yes k A0 c0 l0 m w hr0 hc0 hA hm
  · replace c := Bool.eq_false_iff.mpr c
    subst c
    rw [if_neg (by simp)] at h
    simp only [Option.some.injEq, Prod.mk.injEq] at h
    obtain ⟨rfl, rfl⟩ := h
    exact impl_StickMany.calls_no k A0 c0 l0 w hr0 hc0 hA

/-! ### impl_StickFree: function 27 -/
def impl_StickFree.f (k : Nat) (l0 : List Int) : Option (Bool) := (impl_StickMany.f k l0).bind fun bt138 => (if bt138.2 = true then (some (bt138.1 == 0)) else (some false))
theorem impl_StickFree.mono : ∀ a0 k, LeO (impl_StickFree.f k a0) (impl_StickFree.f (k + 1) a0) := by
  intro a0 k
  unfold impl_StickFree.f
  repeat' first
      | (with_reducible exact impl_StickMany.mono _ _)
      | (with_reducible exact LeO.refl _)
      | (with_reducible exact LeO.none _)
      | (with_reducible refine LeO.ite ?_ ?_)
      | (with_reducible refine LeO.bind ?_ (fun _ => ?_))
      | exact impl_StickMany.mono _ _
      | exact LeO.none _
      | refine LeO.ite ?_ ?_
      | refine LeO.bind ?_ (fun _ => ?_)
set_option maxHeartbeats 8000000 in
set_option maxRecDepth 100000 in
theorem impl_StickFree.calls (k : Nat) (A0 : Option Addr) (c0 : Nat) (l0 : List Int) (r : Bool) (w : World) (hr0 : Kd.C (Kd.int .i64) w A0 l0.length l0) (hc0 : l0.length ≤ c0) (h : impl_StickFree.f k l0 = some r) :
    Calls Try.prog 27 #[.slice A0 l0.length c0] w fun e w' => e = .returned (.bool r) ∧ Below w.heap.size w w' := by
  have HR0 := Aside0.mk hr0
  have HC0 := Aside0.mk hc0
  clear hr0 hc0
  have HB := Aside0.mk (Below.refl w.heap.size w)
  have H : ((impl_StickMany.f k l0).bind fun bt138 => (if bt138.2 = true then (some (bt138.1 == 0)) else (some false))) = some r := h
  clear h
  replace H := Option.bind_eq_some_iff.mp H
  obtain ⟨⟨t138, t139⟩, A20, H⟩ := H
  replace H : (if t139 = true then (some (t138 == 0)) else (some false)) = some r := H
  have A2 := Aside0.mk A20
  clear A20
  by_cases c3 : t139 = true
  · subst c3
    have H1 : (some (t138 == 0)) = some r := by rw [if_pos rfl] at H; exact H
    clear H
    have H := H1
    clear H1
    obtain rfl := Option.some.inj H
    go_enter Try.func27, Try.ntmps27
    go_wp2_with (first | ((with_reducible refine gate_callee (f := 25) rfl ?_); refine goesL_ (some 7) rfl rfl Try.func25 (by kernel_rfl) rfl #[.slice A0 l0.length c0] rfl (by (try simp only [List.map_toArray, List.map_cons, List.map_nil]); first | done | rfl | (simp only [List.length_drop, List.length_take]; rfl)) ?_; (with_reducible refine (impl_StickMany.calls k _ _ l0 t138 true _ ?side1 ?side2 A2.out).mono ?_); (case side1 => repeat (first | exact HR0.out | (with_reducible refine Kd.C_alloc ?_ _) | (with_reducible refine Kd.C_drewN ?_ _) | (with_reducible refine Kd.C_drew ?_))); (case side2 => exact HC0.out); rintro e w4 ⟨rfl, hb⟩; refine ⟨_, rfl, ?_⟩; have n0_ := Aside0.mk (below_step (by repeat (first | (with_reducible first | exact HB.out | apply below_alloc | apply pw_below_drewN | apply below_drew1) | exact HB.out)) hb); clear HB; have HB := n0_; clear n0_; (try clear hb); (try clear hb2); (try clear hk); (try clear hi)))
    go_ret
    exact ⟨by first | rfl | (simp [errW_none, errW_some] <;> rfl) | (simp [*, errW_none, errW_some] <;> rfl) | (simp [i64_w]; done) | (simp [*, i64_w]; done) | (simp [Esame.out]; done) | (simp [*, Esame.out]; done), by repeat (first | (with_reducible first | exact HB.out | apply below_alloc | apply pw_below_drewN | apply below_drew1) | exact HB.out)⟩
  · replace c3 := Bool.eq_false_iff.mpr c3
    subst c3
    have H1 : (some false) = some r := by rw [if_neg (show ¬ (false = true) by decide)] at H; exact H
    clear H
    have H := H1
    clear H1
    obtain rfl := Option.some.inj H
    go_enter Try.func27, Try.ntmps27
    go_wp2_with (first | ((with_reducible refine gate_callee (f := 25) rfl ?_); refine goesL_ (some 7) rfl rfl Try.func25 (by kernel_rfl) rfl #[.slice A0 l0.length c0] rfl (by (try simp only [List.map_toArray, List.map_cons, List.map_nil]); first | done | rfl | (simp only [List.length_drop, List.length_take]; rfl)) ?_; (with_reducible refine (impl_StickMany.calls k _ _ l0 t138 false _ ?side1 ?side2 A2.out).mono ?_); (case side1 => repeat (first | exact HR0.out | (with_reducible refine Kd.C_alloc ?_ _) | (with_reducible refine Kd.C_drewN ?_ _) | (with_reducible refine Kd.C_drew ?_))); (case side2 => exact HC0.out); rintro e w5 ⟨rfl, hb⟩; refine ⟨_, rfl, ?_⟩; have n0_ := Aside0.mk (below_step (by repeat (first | (with_reducible first | exact HB.out | apply below_alloc | apply pw_below_drewN | apply below_drew1) | exact HB.out)) hb); clear HB; have HB := n0_; clear n0_; (try clear hb); (try clear hb2); (try clear hk); (try clear hi)))
    go_ret
    exact ⟨by first | rfl | (simp [errW_none, errW_some] <;> rfl) | (simp [*, errW_none, errW_some] <;> rfl) | (simp [i64_w]; done) | (simp [*, i64_w]; done) | (simp [Esame.out]; done) | (simp [*, Esame.out]; done), by repeat (first | (with_reducible first | exact HB.out | apply below_alloc | apply pw_below_drewN | apply below_drew1) | exact HB.out)⟩

-- NOT PRINTED: function 55 (slices_Clone_int_int)

-- NOT PRINTED: function 54 (impl_StickTryFree_1)

end Go.Proofs.Ytbcacnofgmcdcaa.QFnTryFree
