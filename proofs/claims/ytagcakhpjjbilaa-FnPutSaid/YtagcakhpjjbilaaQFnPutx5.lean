-- Written by a program of this session (wip/myprint.py, over the kit's print) for the law FnPut.
import Derived.Test.YtagcakhpjjbilaaQFnPutx0
import Derived.Test.YtagcakhpjjbilaaQFnPutx1
import Derived.Test.YtagcakhpjjbilaaQFnPutx2
import Derived.Test.YtagcakhpjjbilaaQFnPutx4
namespace Go.Proofs.Ytagcakhpjjbilaa.QFnPut
open Go.RowKit Go.Proofs.YtagcakhpjjbilaaW.PrintWords Go.Proofs.YtagcakhpjjbilaaW.PrintLast Go.Proofs.YtagcakhpjjbilaaW.PrintMore
attribute [local go_sem] max2_int min2_int max_two min_two max_three min_three max_four min_four   -- for this text's walks alone
set_option linter.unusedVariables false
set_option linter.unusedSimpArgs false

/-! ### impl_StickMany: function 23 -/
/-! ### small words of this session: frames of one written variable -/
theorem gb_refl (w : World) (row : Option Nat) : w.grownBy w row := ⟨rfl, rfl, rfl, Nat.le_refl _, fun _ _ _ => rfl⟩
theorem gb_drewN {a w : World} {row : Option Nat} (h : a.grownBy w row) (n : Nat) : a.grownBy (w.drewN n) row := ⟨h.os, h.tape, h.output, h.size, h.block⟩
theorem gb_setCell {a w : World} {g : Nat} (h : a.grownBy w (some g)) (u : Value) : a.grownBy (w.setCell ⟨g, 0, none⟩ u) (some g) :=
  ⟨h.os, h.tape, h.output, by simpa [World.setCell] using h.size, fun i hi hne => (Below.heap_setCell w ⟨g, 0, none⟩ u i (fun e => hne (by rw [e]))).trans (h.block i hi hne)⟩
theorem gb_lt {w : World} {b : Nat} {o : Obj} (h : w.heap[b]? = some o) : b < w.heap.size := (Array.getElem?_eq_some_iff.1 h).1
theorem one_set {w : World} {g : Nat} {u v : Value} {t : TypeId} (h : w.heap[g]? = some (.cells #[u] t (0, 0))) : (w.setCell ⟨g, 0, none⟩ v).heap[g]? = some (.cells #[v] t (0, 0)) := one_setCell h

theorem gb_trans {a b c : World} {row : Option Nat} (h : a.grownBy b row) (k : b.grownBy c row) : a.grownBy c row :=
  ⟨k.os.trans h.os, k.tape.trans h.tape, k.output.trans h.output, Nat.le_trans h.size k.size, fun i hi hne => (k.block i (Nat.lt_of_lt_of_le hi h.size) hne).trans (h.block i hi hne)⟩
theorem gb_drew {a w : World} {row : Option Nat} (h : a.grownBy w row) : a.grownBy w.drew row := ⟨h.os, h.tape, h.output, h.size, h.block⟩
theorem blk_new (w : World) (o : Obj) {g : Nat} (h : w.heap.size = g) : (w.alloc o).heap[g]? = some o := by
  subst h
  show (w.heap.push o)[_]? = _
  simp
theorem blk_two (w : World) (o o2 : Obj) (n : Nat) : (((w.alloc o).drewN n).alloc o2).heap[w.heap.size]? = some o := by
  show ((w.heap.push o).push o2)[_]? = _
  simp [Array.getElem?_push]
def impl_StickMany.step (l : List Int) (x y z m : Int) : Int := if rd l z < wrap64 (rd l x + rd l y) then wrap64 (m + 1) else m
mutual
def impl_StickMany.l0 : Nat → List Int → Int → Int → Option Int
  | 0, _, _, _ => none
  | k + 1, l, x, m => if x < (l.length : Int) then impl_StickMany.l1 k l x (wrap64 (x + 1)) m else some m
def impl_StickMany.l1 : Nat → List Int → Int → Int → Int → Option Int
  | 0, _, _, _, _ => none
  | k + 1, l, x, y, m => if y < (l.length : Int) then impl_StickMany.l2 k l x y (wrap64 (y + 1)) m else impl_StickMany.l0 k l (wrap64 (x + 1)) m
def impl_StickMany.l2 : Nat → List Int → Int → Int → Int → Int → Option Int
  | 0, _, _, _, _, _ => none
  | k + 1, l, x, y, z, m => if z < (l.length : Int) then (if 0 ≤ x ∧ x < (l.length : Int) ∧ 0 ≤ y ∧ y < (l.length : Int) ∧ 0 ≤ z then impl_StickMany.l2 k l x y (wrap64 (z + 1)) (impl_StickMany.step l x y z m) else none) else impl_StickMany.l1 k l x (wrap64 (y + 1)) m
end
set_option maxHeartbeats 1000000 in
set_option maxRecDepth 100000 in
theorem impl_StickMany.clo_yes (A : Option Addr) (c : Nat) (l : List Int) (Ba Bn : Nat) (x y z m : Int) (w : World)
    (hr : Kd.C (Kd.int .i64) w A l.length l) (hA : w.heap[Ba]? = some (.cells #[.slice A l.length c] 23 (0, 0))) (hN : w.heap[Bn]? = some (.cells #[.int .i64 m] 3 (0, 0)))
    (hx0 : 0 ≤ x) (hx : x < (l.length : Int)) (hy0 : 0 ≤ y) (hy : y < (l.length : Int)) (hz0 : 0 ≤ z) (hz : z < (l.length : Int))
    (h : rd l z < wrap64 (rd l x + rd l y)) :
    Calls Try.prog 48 #[.int .i64 x, .int .i64 y, .int .i64 z, .pointer (some ⟨Ba, 0, none⟩), .pointer (some ⟨Bn, 0, none⟩)] w fun e w' => e = .returned (.tuple #[]) ∧ ∃ q, w' = (w.setCell ⟨Bn, 0, none⟩ (.int .i64 (wrap64 (m + 1)))).drewN q := by
  have cA := cell_of_one hA
  have cN := cell_of_one hN
  have fN := free_of_one hN
  obtain ⟨ax, ex, cx⟩ := Kd.at_int hr x hx0 hx
  cases ex
  obtain ⟨ay, ey, cy⟩ := Kd.at_int hr y hy0 hy
  cases ey
  obtain ⟨az, ez, cz⟩ := Kd.at_int hr z hz0 hz
  cases ez
  have hd : decide (rd l z < wrap64 (rd l x + rd l y)) = true := decide_eq_true h
  clear h hA hN hr
  replace hx0 := eq_true hx0
  replace hx := eq_true hx
  replace hy0 := eq_true hy0
  replace hy := eq_true hy
  replace hz0 := eq_true hz0
  replace hz := eq_true hz
  go_enter Try.func48, Try.ntmps48
  go_wp2
  repeat (go_quiet (fail); go_wp2)
  go_end0
  exact ⟨by first | rfl | (simp; done), _, by first | rfl | (simp [i64_w]; done)⟩
set_option maxHeartbeats 1000000 in
set_option maxRecDepth 100000 in
theorem impl_StickMany.clo_no (A : Option Addr) (c : Nat) (l : List Int) (Ba Bn : Nat) (x y z m : Int) (w : World)
    (hr : Kd.C (Kd.int .i64) w A l.length l) (hA : w.heap[Ba]? = some (.cells #[.slice A l.length c] 23 (0, 0))) (hN : w.heap[Bn]? = some (.cells #[.int .i64 m] 3 (0, 0)))
    (hx0 : 0 ≤ x) (hx : x < (l.length : Int)) (hy0 : 0 ≤ y) (hy : y < (l.length : Int)) (hz0 : 0 ≤ z) (hz : z < (l.length : Int))
    (h : ¬ rd l z < wrap64 (rd l x + rd l y)) :
    Calls Try.prog 48 #[.int .i64 x, .int .i64 y, .int .i64 z, .pointer (some ⟨Ba, 0, none⟩), .pointer (some ⟨Bn, 0, none⟩)] w fun e w' => e = .returned (.tuple #[]) ∧ ∃ q, w' = w.drewN q := by
  have cA := cell_of_one hA
  have cN := cell_of_one hN
  have fN := free_of_one hN
  obtain ⟨ax, ex, cx⟩ := Kd.at_int hr x hx0 hx
  cases ex
  obtain ⟨ay, ey, cy⟩ := Kd.at_int hr y hy0 hy
  cases ey
  obtain ⟨az, ez, cz⟩ := Kd.at_int hr z hz0 hz
  cases ez
  have hd : decide (rd l z < wrap64 (rd l x + rd l y)) = false := decide_eq_false h
  clear h hA hN hr
  replace hx0 := eq_true hx0
  replace hx := eq_true hx
  replace hy0 := eq_true hy0
  replace hy := eq_true hy
  replace hz0 := eq_true hz0
  replace hz := eq_true hz
  go_enter Try.func48, Try.ntmps48
  go_wp2
  repeat (go_quiet (fail); go_wp2)
  go_end0
  exact ⟨by first | rfl | (simp; done), _, by first | rfl | (simp [i64_w]; done)⟩
theorem impl_StickMany.clo (A : Option Addr) (c : Nat) (l : List Int) (Ba Bn : Nat) (x y z m : Int) (w : World)
    (hr : Kd.C (Kd.int .i64) w A l.length l) (hA : w.heap[Ba]? = some (.cells #[.slice A l.length c] 23 (0, 0))) (hN : w.heap[Bn]? = some (.cells #[.int .i64 m] 3 (0, 0)))
    (hx0 : 0 ≤ x) (hx : x < (l.length : Int)) (hy0 : 0 ≤ y) (hy : y < (l.length : Int)) (hz0 : 0 ≤ z) (hz : z < (l.length : Int)) :
    Calls Try.prog 48 #[.int .i64 x, .int .i64 y, .int .i64 z, .pointer (some ⟨Ba, 0, none⟩), .pointer (some ⟨Bn, 0, none⟩)] w fun e w' => e = .returned (.tuple #[]) ∧ w.grownBy w' (some Bn) ∧ w'.heap[Bn]? = some (.cells #[.int .i64 (impl_StickMany.step l x y z m)] 3 (0, 0)) := by
  by_cases h : rd l z < wrap64 (rd l x + rd l y)
  · refine (impl_StickMany.clo_yes A c l Ba Bn x y z m w hr hA hN hx0 hx hy0 hy hz0 hz h).mono ?_
    rintro e w' ⟨rfl, q, rfl⟩
    refine ⟨rfl, gb_drewN (gb_setCell (gb_refl _ _) _) q, ?_⟩
    rw [show impl_StickMany.step l x y z m = wrap64 (m + 1) from if_pos h]
    exact one_set hN
  · refine (impl_StickMany.clo_no A c l Ba Bn x y z m w hr hA hN hx0 hx hy0 hy hz0 hz h).mono ?_
    rintro e w' ⟨rfl, q, rfl⟩
    refine ⟨rfl, gb_drewN (gb_refl _ _) q, ?_⟩
    rw [show impl_StickMany.step l x y z m = m from if_neg h]
    exact hN
set_option maxHeartbeats 4000000 in
set_option maxRecDepth 100000 in
theorem impl_StickMany.thr (k : Nat) (A : Option Addr) (c : Nat) (l : List Int) (Ba Bn : Nat) (m r : Int) (w : World) (hne : Ba ≠ Bn)
    (hC : ∀ W, w.grownBy W (some Bn) → Kd.C (Kd.int .i64) W A l.length l) (hA : w.heap[Ba]? = some (.cells #[.slice A l.length c] 23 (0, 0))) (hN : w.heap[Bn]? = some (.cells #[.int .i64 m] 3 (0, 0)))
    (h : impl_StickMany.l0 k l 0 m = some r) :
    Calls Try.prog 47 #[.slice A l.length c, .func (.func 48) #[] #[.pointer (some ⟨Ba, 0, none⟩), .pointer (some ⟨Bn, 0, none⟩)]] w fun e w' => e = .returned (.tuple #[]) ∧ w.grownBy w' (some Bn) ∧ w'.heap[Bn]? = some (.cells #[.int .i64 r] 3 (0, 0)) := by
  have HC := Aside0.mk hC
  have HA0 := Aside0.mk (show ∀ W, w.grownBy W (some Bn) → W.heap[Ba]? = some (.cells #[.slice A l.length c] 23 (0, 0)) from fun W g => (g.block Ba (gb_lt hA) (fun e => hne (by injection e))).trans hA)
  have HN0 := Aside0.mk hN
  have H' := Aside0.mk h
  clear hC hA hN h
  go_enter Try.func47, Try.ntmps47
  go_wp2
  go_loopg [9] k (fun kq v9 w' => ∃ (x m : Int), v9 = .int .i64 x ∧ Aside0 (impl_StickMany.l0 kq l x m = some r) ∧ Aside0 (kq ≤ k) ∧ Aside0 (w.grownBy w' (some Bn)) ∧ Aside0 (w'.heap[Bn]? = some (.cells #[.int .i64 m] 3 (0, 0))))
  case atStart => exact ⟨0, m, (by first | rfl | (simp; done)), H', ⟨Nat.le_refl _⟩, ⟨gb_refl _ _⟩, HN0⟩
  case round =>
    clear H' HN0
    obtain ⟨x, m, rfl, HH, HK1, HG1, HN1⟩ := hrel
    obtain ⟨w1, rfl⟩ : ∃ w1 : World, w1 = wr := ⟨_, rfl⟩
    cases gk with
    | zero => exact absurd HH.out (by simp [impl_StickMany.l0])
    | succ k1 =>
      have H := HH.out
      clear HH
      simp only [impl_StickMany.l0] at H
      by_cases c1 : x < (l.length : Int)
      · rw [if_pos c1] at H
        have c1b : decide (x < (l.length : Int)) = true := decide_eq_true c1
        clear c1
        have H' := Aside0.mk H
        clear H
        go_wp2
        go_loopg [5] k1 (fun kq v5 w' => ∃ (y m : Int), v5 = .int .i64 y ∧ Aside0 (impl_StickMany.l1 kq l x y m = some r) ∧ Aside0 (kq ≤ k1) ∧ Aside0 (w.grownBy w' (some Bn)) ∧ Aside0 (w'.heap[Bn]? = some (.cells #[.int .i64 m] 3 (0, 0))))
        case atStart => exact ⟨_, m, (by first | rfl | (simp; done)), H', ⟨Nat.le_refl _⟩, HG1, HN1⟩
        case round =>
          clear H' HN1 HG1 c1b
          obtain ⟨y, m, rfl, HH, HK2, HG2, HN2⟩ := hrel
          obtain ⟨w2, rfl⟩ : ∃ w2 : World, w2 = wr := ⟨_, rfl⟩
          cases gk with
          | zero => exact absurd HH.out (by simp [impl_StickMany.l1])
          | succ k2 =>
            have H := HH.out
            clear HH
            simp only [impl_StickMany.l1] at H
            by_cases c2 : y < (l.length : Int)
            · rw [if_pos c2] at H
              have c2b : decide (y < (l.length : Int)) = true := decide_eq_true c2
              clear c2
              have H' := Aside0.mk H
              clear H
              go_wp2
              go_loopg [6] k2 (fun kq v6 w' => ∃ (z m : Int), v6 = .int .i64 z ∧ Aside0 (impl_StickMany.l2 kq l x y z m = some r) ∧ Aside0 (kq ≤ k2) ∧ Aside0 (w.grownBy w' (some Bn)) ∧ Aside0 (w'.heap[Bn]? = some (.cells #[.int .i64 m] 3 (0, 0))))
              case atStart => exact ⟨_, m, (by first | rfl | (simp; done)), H', ⟨Nat.le_refl _⟩, HG2, HN2⟩
              case round =>
                clear H' HN2 HG2 c2b
                obtain ⟨z, m, rfl, HH, HK3, HG3, HN3⟩ := hrel
                obtain ⟨w3, rfl⟩ : ∃ w3 : World, w3 = wr := ⟨_, rfl⟩
                cases gk with
                | zero => exact absurd HH.out (by simp [impl_StickMany.l2])
                | succ k3 =>
                  have H := HH.out
                  clear HH
                  simp only [impl_StickMany.l2] at H
                  by_cases c3 : z < (l.length : Int)
                  · rw [if_pos c3] at H
                    by_cases c4 : 0 ≤ x ∧ x < (l.length : Int) ∧ 0 ≤ y ∧ y < (l.length : Int) ∧ 0 ≤ z
                    · rw [if_pos c4] at H
                      have cl := Aside0.mk (impl_StickMany.clo A c l Ba Bn x y z m w3 (HC.out w3 HG3.out) (HA0.out w3 HG3.out) HN3.out c4.1 c4.2.1 c4.2.2.1 c4.2.2.2.1 c4.2.2.2.2 c3)
                      have c3b : decide (z < (l.length : Int)) = true := decide_eq_true c3
                      clear c3 c4
                      have H' := Aside0.mk H
                      clear H
                      go_wp2_with (go_at_call 48; refine cl.out.mono ?_; rintro e w4 ⟨rfl, hg, hn⟩; have HG4 := Aside0.mk (gb_trans HG3.out hg); have HN4 := Aside0.mk hn; clear hg hn cl)
                      go_roundg k3
                      case measure => have := HK1.out; have := HK2.out; have := HK3.out; omega
                      case rel => exact ⟨_, _, (by first | rfl | (simp; done)), H', ⟨by have := HK1.out; have := HK2.out; have := HK3.out; omega⟩, HG4, HN4⟩
                    · rw [if_neg c4] at H
                      exact absurd H (by simp)
                  · rw [if_neg c3] at H
                    have c3b : decide (z < (l.length : Int)) = false := decide_eq_false c3
                    clear c3
                    have H' := Aside0.mk H
                    clear H
                    go_wp2
                    go_roundg k3
                    case measure => have := HK1.out; have := HK2.out; have := HK3.out; omega
                    case rel => exact ⟨_, _, (by first | rfl | (simp; done)), H', ⟨by have := HK1.out; have := HK2.out; have := HK3.out; omega⟩, HG3, HN3⟩
            · rw [if_neg c2] at H
              have c2b : decide (y < (l.length : Int)) = false := decide_eq_false c2
              clear c2
              have H' := Aside0.mk H
              clear H
              go_wp2
              go_roundg k2
              case measure => have := HK1.out; have := HK2.out; omega
              case rel => exact ⟨_, _, (by first | rfl | (simp; done)), H', ⟨by have := HK1.out; have := HK2.out; omega⟩, HG2, HN2⟩
      · rw [if_neg c1] at H
        have c1b : decide (x < (l.length : Int)) = false := decide_eq_false c1
        clear c1
        obtain rfl := Option.some.inj H
        go_wp2
        go_end0
        exact ⟨rfl, HG1.out, HN1.out⟩
theorem impl_StickMany.mono_l : ∀ k, (∀ a b c, LeO (impl_StickMany.l0 k a b c) (impl_StickMany.l0 (k + 1) a b c)) ∧ (∀ a b c d, LeO (impl_StickMany.l1 k a b c d) (impl_StickMany.l1 (k + 1) a b c d)) ∧ (∀ a b c d e, LeO (impl_StickMany.l2 k a b c d e) (impl_StickMany.l2 (k + 1) a b c d e))
  | 0 => ⟨fun _ _ _ r h => by simp [impl_StickMany.l0] at h, fun _ _ _ _ r h => by simp [impl_StickMany.l1] at h, fun _ _ _ _ _ r h => by simp [impl_StickMany.l2] at h⟩
  | k + 1 => by
    obtain ⟨i0, i1, i2⟩ := impl_StickMany.mono_l k
    refine ⟨fun a b c => ?_, fun a b c d => ?_, fun a b c d e => ?_⟩
    · unfold impl_StickMany.l0
      exact LeO.ite (i1 _ _ _ _) (LeO.refl _)
    · unfold impl_StickMany.l1
      exact LeO.ite (i2 _ _ _ _ _) (i0 _ _ _)
    · unfold impl_StickMany.l2
      exact LeO.ite (LeO.ite (i2 _ _ _ _ _) (LeO.none _)) (i1 _ _ _ _)
def impl_StickMany.f (k : Nat) (l0 : List Int) : Option (Int × Bool) := (impl_StickIn.f k l0).bind fun t => (if t = true then ((impl_StickMany.l0 k l0 0 0).bind fun m => some (m, true)) else (some (0, false)))
theorem impl_StickMany.mono : ∀ a0 k, LeO (impl_StickMany.f k a0) (impl_StickMany.f (k + 1) a0) := by
  intro a0 k
  unfold impl_StickMany.f
  exact LeO.bind (impl_StickIn.mono _ _) (fun _ => LeO.ite (LeO.bind ((impl_StickMany.mono_l k).1 _ _ _) (fun _ => LeO.refl _)) (LeO.refl _))
set_option maxHeartbeats 2000000 in
set_option maxRecDepth 100000 in
theorem impl_StickMany.calls_no (k : Nat) (A0 : Option Addr) (c0 : Nat) (l0 : List Int) (w : World) (hr0 : Kd.C (Kd.int .i64) w A0 l0.length l0) (hc0 : l0.length ≤ c0) (h : impl_StickIn.f k l0 = some false) :
    Calls Try.prog 23 #[.slice A0 l0.length c0] w fun e w' => e = .returned (.tuple #[.int .i64 0, .bool false]) ∧ Below w.heap.size w w' := by
  have HR0 := Aside0.mk hr0
  have HC0 := Aside0.mk hc0
  have HL := Aside0.mk h
  have HB := Aside0.mk (Below.refl w.heap.size w)
  clear hr0 hc0 h
  go_enter Try.func23, Try.ntmps23
  go_wp2_with (go_at_call 15; refine (impl_StickIn.calls k A0 c0 l0 false _ ?s1 ?s2 HL.out).mono ?_; (case s1 => repeat (first | exact HR0.out | (with_reducible refine Kd.C_alloc ?_ _))); (case s2 => exact HC0.out); rintro e w' ⟨rfl, ⟨nd, rfl⟩⟩)
  go_ret2
  exact ⟨by first | rfl | (simp; done), by repeat (first | exact HB.out | apply below_alloc | apply pw_below_drewN)⟩
set_option maxHeartbeats 2000000 in
set_option maxRecDepth 100000 in
theorem impl_StickMany.calls_yes (k : Nat) (A0 : Option Addr) (c0 : Nat) (l0 : List Int) (m : Int) (w : World) (hr0 : Kd.C (Kd.int .i64) w A0 l0.length l0) (hc0 : l0.length ≤ c0) (h0 : impl_StickIn.f k l0 = some true) (h : impl_StickMany.l0 k l0 0 0 = some m) :
    Calls Try.prog 23 #[.slice A0 l0.length c0] w fun e w' => e = .returned (.tuple #[.int .i64 m, .bool true]) ∧ Below w.heap.size w w' := by
  have HR0 := Aside0.mk hr0
  have HC0 := Aside0.mk hc0
  have HI := Aside0.mk h0
  have HL := Aside0.mk h
  have HB := Aside0.mk (Below.refl w.heap.size w)
  clear hr0 hc0 h h0
  go_enter Try.func23, Try.ntmps23
  go_wp2_with (first
    | (go_at_call 15; refine (impl_StickIn.calls k A0 c0 l0 true _ ?s1 ?s2 HI.out).mono ?_; (case s1 => repeat (first | exact HR0.out | (with_reducible refine Kd.C_alloc ?_ _))); (case s2 => exact HC0.out); rintro e w' ⟨rfl, ⟨nd, rfl⟩⟩)
    | (go_at_call 47; refine (impl_StickMany.thr k A0 c0 l0 w.heap.size (w.heap.size + 1) 0 m _ (by omega) ?hC ?hA ?hN HL.out).mono ?_; (case hC => exact fun W g => Kd.C_below HR0.out (pw_below_grown (by repeat (first | exact HB.out | apply below_alloc | apply pw_below_drewN)) _ (by simp; omega) g (fun k_ e_ => by injection e_ with e_; omega))); (case hA => exact blk_two _ _ _ _); (case hN => exact blk_new _ _ (by simp)); rintro e w4 ⟨rfl, hg, hn⟩; have cN := cell_of_one hn; have HB2 := Aside0.mk (pw_below_grown (show Below w.heap.size w _ by repeat (first | exact HB.out | apply below_alloc | apply pw_below_drewN)) _ (by simp; omega) hg (fun k_ e_ => by injection e_ with e_; omega)); clear hg hn))
  go_ret2
  exact ⟨by first | rfl | (simp; done), by repeat (first | exact HB2.out | apply below_alloc | apply pw_below_drewN | apply below_drew1)⟩
theorem impl_StickMany.calls (k : Nat) (A0 : Option Addr) (c0 : Nat) (l0 : List Int) (r1 : Int) (r2 : Bool) (w : World) (hr0 : Kd.C (Kd.int .i64) w A0 l0.length l0) (hc0 : l0.length ≤ c0) (h : impl_StickMany.f k l0 = some (r1, r2)) :
    Calls Try.prog 23 #[.slice A0 l0.length c0] w fun e w' => e = .returned (.tuple #[.int .i64 r1, .bool r2]) ∧ Below w.heap.size w w' := by
  unfold impl_StickMany.f at h
  obtain ⟨t, hA, h⟩ := Option.bind_eq_some_iff.mp h
  by_cases c : t = true
  · subst c
    rw [if_pos rfl] at h
    obtain ⟨m, hm, h⟩ := Option.bind_eq_some_iff.mp h
    simp only [Option.some.injEq, Prod.mk.injEq] at h
    obtain ⟨rfl, rfl⟩ := h
    exact impl_StickMany.calls_yes k A0 c0 l0 m w hr0 hc0 hA hm
  · replace c := Bool.eq_false_iff.mpr c
    subst c
    rw [if_neg (by simp)] at h
    simp only [Option.some.injEq, Prod.mk.injEq] at h
    obtain ⟨rfl, rfl⟩ := h
    exact impl_StickMany.calls_no k A0 c0 l0 w hr0 hc0 hA

/-! ### laws_FnPut: function 5 -/
def laws_FnPut.j0 : Nat → List Int → Int → List Int → Bool → List Int → Bool → Bool → Option (Bool)
  | 0, _, _, _, _, _, _, _ => none
  | k + 1, x3, x4, x5, x6, x7, x8, x45 => if x45 = true then (if (x6 == x8) = true then ((laws_sameInts.f k x5 x7).bind fun t274 => (some t274)) else (some false)) else ((impl_StickMany.f k x3).bind fun bt275 => ((impl_StickMany.f k x5).bind fun bt277 => (if bt275.2 = true then (if bt277.2 = true then (if bt277.1 ≥ bt275.1 then (if (x5.length : Int) = (wrap64 ((x3.length : Int) + 1)) then ((laws_total.f k x5).bind fun t279 => ((laws_total.f k x3).bind fun t280 => (some (t279 == (wrap64 (t280 + x4)))))) else (some false)) else (some false)) else (some false)) else (some false))))
def laws_FnPut.f (k : Nat) (l0 : List Int) : Option (Bool) := if (l0.length : Int) > 1048576 then (some true) else ((spec_DrawStickPut.f k l0).bind fun bt261 => ((impl_StickPut.f k bt261.1 bt261.2).bind fun bt265 => ((spec_StickPut.f k bt261.1 bt261.2).bind fun bt269 => (if (bt265.2 == bt269.2) = true then ((laws_sameInts.f k bt265.1 bt269.1).bind fun t273 => (if t273 = true then (laws_FnPut.j0 k bt261.1 bt261.2 bt265.1 bt265.2 bt269.1 bt269.2 (!bt265.2)) else (laws_FnPut.j0 k bt261.1 bt261.2 bt265.1 bt265.2 bt269.1 bt269.2 true))) else (laws_FnPut.j0 k bt261.1 bt261.2 bt265.1 bt265.2 bt269.1 bt269.2 true)))))
theorem laws_FnPut.mono_l : ∀ k, (∀ y0 y1 y2 y3 y4 y5 y6, LeO (laws_FnPut.j0 k y0 y1 y2 y3 y4 y5 y6) (laws_FnPut.j0 (k + 1) y0 y1 y2 y3 y4 y5 y6))
  | 0 => fun _ _ _ _ _ _ _ r h => by simp [laws_FnPut.j0] at h
  | k + 1 => by
    have ih0 := laws_FnPut.mono_l k
    · intro y0 y1 y2 y3 y4 y5 y6
      unfold laws_FnPut.j0
      repeat' first
      | (with_reducible exact ih0 _ _ _ _ _ _ _)
      | (with_reducible exact impl_StickMany.mono _ _)
      | (with_reducible exact impl_StickPut.mono _ _ _)
      | (with_reducible exact laws_sameInts.mono _ _ _)
      | (with_reducible exact laws_total.mono _ _)
      | (with_reducible exact spec_DrawStickPut.mono _ _)
      | (with_reducible exact spec_StickPut.mono _ _ _)
      | (with_reducible exact LeO.refl _)
      | (with_reducible exact LeO.none _)
      | (with_reducible refine LeO.ite ?_ ?_)
      | (with_reducible refine LeO.bind ?_ (fun _ => ?_))
      | exact ih0 _ _ _ _ _ _ _
      | exact impl_StickMany.mono _ _
      | exact impl_StickPut.mono _ _ _
      | exact laws_sameInts.mono _ _ _
      | exact laws_total.mono _ _
      | exact spec_DrawStickPut.mono _ _
      | exact spec_StickPut.mono _ _ _
      | exact LeO.none _
      | refine LeO.ite ?_ ?_
      | refine LeO.bind ?_ (fun _ => ?_)
theorem laws_FnPut.mono : ∀ a0 k, LeO (laws_FnPut.f k a0) (laws_FnPut.f (k + 1) a0) := by
  intro a0 k
  have ih0 := laws_FnPut.mono_l k
  unfold laws_FnPut.f
  repeat' first
      | (with_reducible exact ih0 _ _ _ _ _ _ _)
      | (with_reducible exact impl_StickMany.mono _ _)
      | (with_reducible exact impl_StickPut.mono _ _ _)
      | (with_reducible exact laws_sameInts.mono _ _ _)
      | (with_reducible exact laws_total.mono _ _)
      | (with_reducible exact spec_DrawStickPut.mono _ _)
      | (with_reducible exact spec_StickPut.mono _ _ _)
      | (with_reducible exact LeO.refl _)
      | (with_reducible exact LeO.none _)
      | (with_reducible refine LeO.ite ?_ ?_)
      | (with_reducible refine LeO.bind ?_ (fun _ => ?_))
      | exact ih0 _ _ _ _ _ _ _
      | exact impl_StickMany.mono _ _
      | exact impl_StickPut.mono _ _ _
      | exact laws_sameInts.mono _ _ _
      | exact laws_total.mono _ _
      | exact spec_DrawStickPut.mono _ _
      | exact spec_StickPut.mono _ _ _
      | exact LeO.none _
      | refine LeO.ite ?_ ?_
      | refine LeO.bind ?_ (fun _ => ?_)
set_option maxHeartbeats 8000000 in
set_option maxRecDepth 100000 in
theorem laws_FnPut.calls (k : Nat) (A0 : Option Addr) (c0 : Nat) (l0 : List Int) (r : Bool) (w : World) (hr0 : Kd.C (Kd.int .u8) w A0 l0.length l0) (hc0 : l0.length ≤ c0) (h : laws_FnPut.f k l0 = some r) :
    Calls Try.prog 5 #[.slice A0 l0.length c0] w fun e w' => e = .returned (.bool r) ∧ Below w.heap.size w w' := by
  have HR0 := Aside0.mk hr0
  have HC0 := Aside0.mk hc0
  clear hr0 hc0
  have HB := Aside0.mk (Below.refl w.heap.size w)
  have H : (if (l0.length : Int) > 1048576 then (some true) else ((spec_DrawStickPut.f k l0).bind fun bt261 => ((impl_StickPut.f k bt261.1 bt261.2).bind fun bt265 => ((spec_StickPut.f k bt261.1 bt261.2).bind fun bt269 => (if (bt265.2 == bt269.2) = true then ((laws_sameInts.f k bt265.1 bt269.1).bind fun t273 => (if t273 = true then (laws_FnPut.j0 k bt261.1 bt261.2 bt265.1 bt265.2 bt269.1 bt269.2 (!bt265.2)) else (laws_FnPut.j0 k bt261.1 bt261.2 bt265.1 bt265.2 bt269.1 bt269.2 true))) else (laws_FnPut.j0 k bt261.1 bt261.2 bt265.1 bt265.2 bt269.1 bt269.2 true)))))) = some r := h
  clear h
  by_cases c2 : (l0.length : Int) > 1048576
  · rw [if_pos c2] at H
    have c2b0 : decide (1048576 < (l0.length : Int)) = true := decide_eq_true c2
    have c2b1 : decide (1048576 < l0.length) = true := decide_eq_true (by omega)
    clear c2
    obtain rfl := Option.some.inj H
    go_enter Try.func5, Try.ntmps5
    go_wp2
    go_ret
    exact ⟨by first | rfl | (simp [errW_none, errW_some] <;> rfl) | (simp [*, errW_none, errW_some] <;> rfl) | (simp [i64_w]; done) | (simp [*, i64_w]; done) | (simp [Esame.out]; done) | (simp [*, Esame.out]; done), by repeat (first | (with_reducible first | exact HB.out | apply below_alloc | apply pw_below_drewN | apply below_drew1) | exact HB.out)⟩
  · rw [if_neg c2] at H
    have c2b0 : decide (1048576 < (l0.length : Int)) = false := decide_eq_false c2
    have c2b1 : decide (1048576 < l0.length) = false := decide_eq_false (by omega)
    clear c2
    replace H := Option.bind_eq_some_iff.mp H
    obtain ⟨⟨t261, t262⟩, A30, H⟩ := H
    replace H : ((impl_StickPut.f k t261 t262).bind fun bt265 => ((spec_StickPut.f k t261 t262).bind fun bt269 => (if (bt265.2 == bt269.2) = true then ((laws_sameInts.f k bt265.1 bt269.1).bind fun t273 => (if t273 = true then (laws_FnPut.j0 k t261 t262 bt265.1 bt265.2 bt269.1 bt269.2 (!bt265.2)) else (laws_FnPut.j0 k t261 t262 bt265.1 bt265.2 bt269.1 bt269.2 true))) else (laws_FnPut.j0 k t261 t262 bt265.1 bt265.2 bt269.1 bt269.2 true)))) = some r := H
    have A3 := Aside0.mk A30
    clear A30
    replace H := Option.bind_eq_some_iff.mp H
    obtain ⟨⟨t265, t266⟩, A40, H⟩ := H
    replace H : ((spec_StickPut.f k t261 t262).bind fun bt269 => (if (t266 == bt269.2) = true then ((laws_sameInts.f k t265 bt269.1).bind fun t273 => (if t273 = true then (laws_FnPut.j0 k t261 t262 t265 t266 bt269.1 bt269.2 (!t266)) else (laws_FnPut.j0 k t261 t262 t265 t266 bt269.1 bt269.2 true))) else (laws_FnPut.j0 k t261 t262 t265 t266 bt269.1 bt269.2 true))) = some r := H
    have A4 := Aside0.mk A40
    clear A40
    replace H := Option.bind_eq_some_iff.mp H
    obtain ⟨⟨t269, t270⟩, A50, H⟩ := H
    replace H : (if (t266 == t270) = true then ((laws_sameInts.f k t265 t269).bind fun t273 => (if t273 = true then (laws_FnPut.j0 k t261 t262 t265 t266 t269 t270 (!t266)) else (laws_FnPut.j0 k t261 t262 t265 t266 t269 t270 true))) else (laws_FnPut.j0 k t261 t262 t265 t266 t269 t270 true)) = some r := H
    have A5 := Aside0.mk A50
    clear A50
    have HC6 := Aside0.mk H
    clear H
    go_enter Try.func5, Try.ntmps5
    go_upto_region 6 with (first | ((with_reducible refine gate_callee (f := 21) rfl ?_); refine goesL_ (some 18) rfl rfl Try.func21 (by kernel_rfl) rfl #[.slice A0 l0.length c0] rfl (by (try simp only [List.map_toArray, List.map_cons, List.map_nil]); first | done | rfl | (simp only [List.length_drop, List.length_take]; rfl)) ?_; (with_reducible refine (spec_DrawStickPut.calls k _ _ l0 t261 t262 _ ?side1 ?side2 A3.out).mono ?_); (case side1 => repeat (first | exact HR0.out | (with_reducible refine Kd.C_alloc ?_ _) | (with_reducible refine Kd.C_drewN ?_ _) | (with_reducible refine Kd.C_drew ?_))); (case side2 => exact HC0.out); rintro e w7 ⟨v263, rfl, ho0, hb⟩; refine ⟨_, rfl, ?_⟩; have n0_ := Aside0.mk (Kd.R_lower ho0 (below_size (by repeat (first | (with_reducible first | exact HB.out | apply below_alloc | apply pw_below_drewN | apply below_drew1) | exact HB.out)))); have n1_ := Aside0.mk (below_step (by repeat (first | (with_reducible first | exact HB.out | apply below_alloc | apply pw_below_drewN | apply below_drew1) | exact HB.out)) hb); clear HB; have HO264 := n0_; have HB := n1_; clear n0_ n1_; (try clear hb); (try clear hb2); (try clear hk); (try clear hi); (try clear ho0); obtain ⟨Ao8, co8, eo8⟩ := Kd.R_slice HO264.out; subst eo8) | ((with_reducible refine gate_callee (f := 20) rfl ?_); refine goesL_ (some 24) rfl rfl Try.func20 (by kernel_rfl) rfl #[.slice Ao8 t261.length co8, .int .i64 t262] rfl (by (try simp only [List.map_toArray, List.map_cons, List.map_nil]); first | done | rfl | (simp only [List.length_drop, List.length_take]; rfl)) ?_; (with_reducible refine (impl_StickPut.calls k _ _ t261 t262 t265 t266 _ ?side1 ?side2 A4.out).mono ?_); (case side1 => repeat (first | exact (Kd.R_reads' HO264.out).2.2 | (with_reducible refine Kd.C_alloc ?_ _) | (with_reducible refine Kd.C_drewN ?_ _) | (with_reducible refine Kd.C_drew ?_))); (case side2 => exact (Kd.R_reads' HO264.out).2.1); rintro e w9 ⟨v267, rfl, ho0, hb⟩; refine ⟨_, rfl, ?_⟩; have n0_ := Aside0.mk (Kd.R_elder' (by (with_reducible repeat (first | apply Kd.R_alloc | apply Kd.R_drewN | apply Kd.R_drew)); exact HO264.out) (Kd.R_base ho0) hb); have n1_ := Aside0.mk (Kd.R_lower (Kd.R_new' ho0 (Kd.R_lt (by (with_reducible repeat (first | apply Kd.R_alloc | apply Kd.R_drewN | apply Kd.R_drew)); exact HO264.out))) (below_size (by repeat (first | (with_reducible first | exact HB.out | apply below_alloc | apply pw_below_drewN | apply below_drew1) | exact HB.out)))); have n2_ := Aside0.mk (below_step (by repeat (first | (with_reducible first | exact HB.out | apply below_alloc | apply pw_below_drewN | apply below_drew1) | exact HB.out)) hb); clear HO264; clear HB; have HO264 := n0_; have HO268 := n1_; have HB := n2_; clear n0_ n1_ n2_; (try clear hb); (try clear hb2); (try clear hk); (try clear hi); (try clear ho0)) | ((with_reducible refine gate_callee (f := 22) rfl ?_); refine goesL_ (some 30) rfl rfl Try.func22 (by kernel_rfl) rfl #[.slice Ao8 t261.length co8, .int .i64 t262] rfl (by (try simp only [List.map_toArray, List.map_cons, List.map_nil]); first | done | rfl | (simp only [List.length_drop, List.length_take]; rfl)) ?_; (with_reducible refine (spec_StickPut.calls k _ _ t261 t262 t269 t270 _ ?side1 ?side2 A5.out).mono ?_); (case side1 => repeat (first | exact (Kd.R_reads' HO264.out).2.2 | (with_reducible refine Kd.C_alloc ?_ _) | (with_reducible refine Kd.C_drewN ?_ _) | (with_reducible refine Kd.C_drew ?_))); (case side2 => exact (Kd.R_reads' HO264.out).2.1); rintro e w10 ⟨v271, rfl, ho0, hb⟩; refine ⟨_, rfl, ?_⟩; have n0_ := Aside0.mk (Kd.R_elder' (by (with_reducible repeat (first | apply Kd.R_alloc | apply Kd.R_drewN | apply Kd.R_drew)); exact HO264.out) (Kd.R_base ho0) hb); have n1_ := Aside0.mk (Kd.R_elder' (by (with_reducible repeat (first | apply Kd.R_alloc | apply Kd.R_drewN | apply Kd.R_drew)); exact HO268.out) (Kd.R_base ho0) hb); have n2_ := Aside0.mk (Kd.R_lower (Kd.R_new' (Kd.R_new' ho0 (Kd.R_lt (by (with_reducible repeat (first | apply Kd.R_alloc | apply Kd.R_drewN | apply Kd.R_drew)); exact HO264.out))) (Kd.R_lt (by (with_reducible repeat (first | apply Kd.R_alloc | apply Kd.R_drewN | apply Kd.R_drew)); exact HO268.out))) (below_size (by repeat (first | (with_reducible first | exact HB.out | apply below_alloc | apply pw_below_drewN | apply below_drew1) | exact HB.out)))); have n3_ := Aside0.mk (below_step (by repeat (first | (with_reducible first | exact HB.out | apply below_alloc | apply pw_below_drewN | apply below_drew1) | exact HB.out)) hb); clear HO264; clear HO268; clear HB; have HO264 := n0_; have HO268 := n1_; have HO272 := n2_; have HB := n3_; clear n0_ n1_ n2_ n3_; (try clear hb); (try clear hb2); (try clear hk); (try clear hi); (try clear ho0)))
    (try simp only [Act.put, List.setIfInBounds_toArray, List.set_cons_zero, List.set_cons_succ])
    go_cut [45] (fun v45 wc => ∃ (kq : Nat) (x45_5 : Bool), v45 = .bool x45_5 ∧ Aside0 (laws_FnPut.j0 kq t261 t262 t265 t266 t269 t270 x45_5 = some r) ∧ Aside0 (kq ≤ k) ∧ Aside0 (Kd.R (Kd.int .i64) 3 wc w.heap.size (fun k_ => some k_ ≠ (v267 : Value).ownBlock ∧ some k_ ≠ (v271 : Value).ownBlock) (.slice Ao8 t261.length co8) t261) ∧ Aside0 (Kd.R (Kd.int .i64) 3 wc w.heap.size (fun k_ => some k_ ≠ ((.slice Ao8 t261.length co8) : Value).ownBlock ∧ some k_ ≠ (v271 : Value).ownBlock) v267 t265) ∧ Aside0 (Kd.R (Kd.int .i64) 3 wc w.heap.size (fun k_ => some k_ ≠ ((.slice Ao8 t261.length co8) : Value).ownBlock ∧ some k_ ≠ (v267 : Value).ownBlock) v271 t269) ∧ Aside0 (Below w.heap.size w wc))
    case first =>
      have H := HC6.out
      clear HC6
      by_cases c11 : (t266 == t270) = true
      · rw [if_pos c11] at H
        have c11b0 : (t266 == t270) = true := c11
        (try (have c11b1 : decide (t266 = t270) = true := by simpa using c11))
        (try (have c11b2 : (t266 == t270) = true := by simpa using c11))
        clear c11
        (first | rw [c11b0] | (simp only [i64_w, i32_w]; rw [c11b0]) | skip)
        replace H := Option.bind_eq_some_iff.mp H
        obtain ⟨t273, A120, H⟩ := H
        replace H : (if t273 = true then (laws_FnPut.j0 k t261 t262 t265 t266 t269 t270 (!t266)) else (laws_FnPut.j0 k t261 t262 t265 t266 t269 t270 true)) = some r := H
        have A12 := Aside0.mk A120
        clear A120
        by_cases c13 : t273 = true
        · subst c13
          have H1 : (laws_FnPut.j0 k t261 t262 t265 t266 t269 t270 (!t266)) = some r := by rw [if_pos rfl] at H; exact H
          clear H
          have H := H1
          clear H1
          have H' := Aside0.mk H
          clear H
          obtain ⟨Ao14, co14, eo14⟩ := Kd.R_slice HO268.out
          subst eo14
          obtain ⟨Ao15, co15, eo15⟩ := Kd.R_slice HO272.out
          subst eo15
          go_wp2_with (first | (go_at_call 14; (with_reducible refine (laws_sameInts.calls k _ _ t265 _ _ t269 true _ ?side1 ?side2 ?side3 ?side4 A12.out).mono ?_); (case side1 => repeat (first | exact (Kd.R_reads' HO268.out).2.2 | (with_reducible refine Kd.C_alloc ?_ _) | (with_reducible refine Kd.C_drewN ?_ _) | (with_reducible refine Kd.C_drew ?_))); (case side2 => exact (Kd.R_reads' HO268.out).2.1); (case side3 => repeat (first | exact (Kd.R_reads' HO272.out).2.2 | (with_reducible refine Kd.C_alloc ?_ _) | (with_reducible refine Kd.C_drewN ?_ _) | (with_reducible refine Kd.C_drew ?_))); (case side4 => exact (Kd.R_reads' HO272.out).2.1); rintro e w' ⟨rfl, ⟨nd, rfl⟩⟩))
          go_meet
          case rel => exact ⟨_, (!t266), (by first | rfl | (simp; done) | (simp [*]; done) | (simp [i64_w]; done) | (simp [*, i64_w]; done)), H', ⟨by first | omega | exact Nat.le_refl _⟩, ⟨by (with_reducible repeat (first | apply Kd.R_alloc | apply Kd.R_drewN | apply Kd.R_drew)); exact Kd.R_mono HO264.out (fun _ hk => ⟨hk.1.2, hk.2⟩)⟩, ⟨by (with_reducible repeat (first | apply Kd.R_alloc | apply Kd.R_drewN | apply Kd.R_drew)); exact Kd.R_mono HO268.out (fun _ hk => ⟨hk.1.2, hk.2⟩)⟩, ⟨by (with_reducible repeat (first | apply Kd.R_alloc | apply Kd.R_drewN | apply Kd.R_drew)); exact Kd.R_mono HO272.out (fun _ hk => ⟨hk.1.2, hk.2⟩)⟩, ⟨by repeat (first | (with_reducible first | exact HB.out | apply below_alloc | apply pw_below_drewN | apply below_drew1) | exact HB.out)⟩⟩
        · replace c13 := Bool.eq_false_iff.mpr c13
          subst c13
          have H1 : (laws_FnPut.j0 k t261 t262 t265 t266 t269 t270 true) = some r := by rw [if_neg (show ¬ (false = true) by decide)] at H; exact H
          clear H
          have H := H1
          clear H1
          have H' := Aside0.mk H
          clear H
          obtain ⟨Ao16, co16, eo16⟩ := Kd.R_slice HO268.out
          subst eo16
          obtain ⟨Ao17, co17, eo17⟩ := Kd.R_slice HO272.out
          subst eo17
          go_wp2_with (first | (go_at_call 14; (with_reducible refine (laws_sameInts.calls k _ _ t265 _ _ t269 false _ ?side1 ?side2 ?side3 ?side4 A12.out).mono ?_); (case side1 => repeat (first | exact (Kd.R_reads' HO268.out).2.2 | (with_reducible refine Kd.C_alloc ?_ _) | (with_reducible refine Kd.C_drewN ?_ _) | (with_reducible refine Kd.C_drew ?_))); (case side2 => exact (Kd.R_reads' HO268.out).2.1); (case side3 => repeat (first | exact (Kd.R_reads' HO272.out).2.2 | (with_reducible refine Kd.C_alloc ?_ _) | (with_reducible refine Kd.C_drewN ?_ _) | (with_reducible refine Kd.C_drew ?_))); (case side4 => exact (Kd.R_reads' HO272.out).2.1); rintro e w' ⟨rfl, ⟨nd, rfl⟩⟩))
          go_meet
          case rel => exact ⟨_, (true), (by first | rfl | (simp; done) | (simp [*]; done) | (simp [i64_w]; done) | (simp [*, i64_w]; done)), H', ⟨by first | omega | exact Nat.le_refl _⟩, ⟨by (with_reducible repeat (first | apply Kd.R_alloc | apply Kd.R_drewN | apply Kd.R_drew)); exact Kd.R_mono HO264.out (fun _ hk => ⟨hk.1.2, hk.2⟩)⟩, ⟨by (with_reducible repeat (first | apply Kd.R_alloc | apply Kd.R_drewN | apply Kd.R_drew)); exact Kd.R_mono HO268.out (fun _ hk => ⟨hk.1.2, hk.2⟩)⟩, ⟨by (with_reducible repeat (first | apply Kd.R_alloc | apply Kd.R_drewN | apply Kd.R_drew)); exact Kd.R_mono HO272.out (fun _ hk => ⟨hk.1.2, hk.2⟩)⟩, ⟨by repeat (first | (with_reducible first | exact HB.out | apply below_alloc | apply pw_below_drewN | apply below_drew1) | exact HB.out)⟩⟩
      · rw [if_neg c11] at H
        have c11b0 : (t266 == t270) = false := by simpa using c11
        (try (have c11b1 : decide (t266 = t270) = false := by simpa using c11))
        (try (have c11b2 : (t266 == t270) = false := by simpa using c11))
        (try (have c11b3 : ¬ (t266 = t270) := by simpa using c11))
        clear c11
        (first | rw [c11b0] | (simp only [i64_w, i32_w]; rw [c11b0]) | skip)
        have H' := Aside0.mk H
        clear H
        go_wp2
        go_meet
        case rel => exact ⟨_, (true), (by first | rfl | (simp; done) | (simp [*]; done) | (simp [i64_w]; done) | (simp [*, i64_w]; done)), H', ⟨by first | omega | exact Nat.le_refl _⟩, ⟨by (with_reducible repeat (first | apply Kd.R_alloc | apply Kd.R_drewN | apply Kd.R_drew)); exact Kd.R_mono HO264.out (fun _ hk => ⟨hk.1.2, hk.2⟩)⟩, ⟨by (with_reducible repeat (first | apply Kd.R_alloc | apply Kd.R_drewN | apply Kd.R_drew)); exact Kd.R_mono HO268.out (fun _ hk => ⟨hk.1.2, hk.2⟩)⟩, ⟨by (with_reducible repeat (first | apply Kd.R_alloc | apply Kd.R_drewN | apply Kd.R_drew)); exact Kd.R_mono HO272.out (fun _ hk => ⟨hk.1.2, hk.2⟩)⟩, ⟨by repeat (first | (with_reducible first | exact HB.out | apply below_alloc | apply pw_below_drewN | apply below_drew1) | exact HB.out)⟩⟩
    case rest =>
      clear HC6
      try clear c1
      try clear c2
      try clear c2b0
      try clear c2b1
      try clear p2
      try clear c5
      try clear c11
      try clear c11b0
      try clear c11b1
      try clear c11b2
      try clear c13
      obtain ⟨kq, x45_5, rfl, HA, HJ5, HO_3, HO_5, HO_7, HB⟩ := hcut
      cases kq with
      | zero => exact absurd HA.out (by simp [laws_FnPut.j0])
      | succ kj5 =>
        have H := HA.out
        clear HA
        simp only [laws_FnPut.j0] at H
        by_cases c18 : x45_5 = true
        · subst c18
          have H1 : (if (t266 == t270) = true then ((laws_sameInts.f kj5 t265 t269).bind fun t274 => (some t274)) else (some false)) = some r := by rw [if_pos rfl] at H; exact H
          clear H
          have H := H1
          clear H1
          by_cases c19 : (t266 == t270) = true
          · rw [if_pos c19] at H
            have c19b0 : (t266 == t270) = true := c19
            (try (have c19b1 : decide (t266 = t270) = true := by simpa using c19))
            (try (have c19b2 : (t266 == t270) = true := by simpa using c19))
            clear c19
            replace H := Option.bind_eq_some_iff.mp H
            obtain ⟨t274, A200, H⟩ := H
            replace H : (some t274) = some r := H
            have A20 := Aside0.mk A200
            clear A200
            obtain rfl := Option.some.inj H
            obtain ⟨Ao21, co21, eo21⟩ := Kd.R_slice HO_5.out
            subst eo21
            obtain ⟨Ao22, co22, eo22⟩ := Kd.R_slice HO_7.out
            subst eo22
            go_wp2_with (first | (go_at_call 14; (with_reducible refine (laws_sameInts.calls kj5 _ _ t265 _ _ t269 t274 _ ?side1 ?side2 ?side3 ?side4 A20.out).mono ?_); (case side1 => repeat (first | exact (Kd.R_reads' HO_5.out).2.2 | (with_reducible refine Kd.C_alloc ?_ _) | (with_reducible refine Kd.C_drewN ?_ _) | (with_reducible refine Kd.C_drew ?_))); (case side2 => exact (Kd.R_reads' HO_5.out).2.1); (case side3 => repeat (first | exact (Kd.R_reads' HO_7.out).2.2 | (with_reducible refine Kd.C_alloc ?_ _) | (with_reducible refine Kd.C_drewN ?_ _) | (with_reducible refine Kd.C_drew ?_))); (case side4 => exact (Kd.R_reads' HO_7.out).2.1); rintro e w' ⟨rfl, ⟨nd, rfl⟩⟩))
            go_ret
            exact ⟨by first | rfl | (simp [errW_none, errW_some] <;> rfl) | (simp [*, errW_none, errW_some] <;> rfl) | (simp [i64_w]; done) | (simp [*, i64_w]; done) | (simp [Esame.out]; done) | (simp [*, Esame.out]; done), by repeat (first | (with_reducible first | exact HB.out | apply below_alloc | apply pw_below_drewN | apply below_drew1) | exact HB.out)⟩
          · rw [if_neg c19] at H
            have c19b0 : (t266 == t270) = false := by simpa using c19
            (try (have c19b1 : decide (t266 = t270) = false := by simpa using c19))
            (try (have c19b2 : (t266 == t270) = false := by simpa using c19))
            (try (have c19b3 : ¬ (t266 = t270) := by simpa using c19))
            clear c19
            obtain rfl := Option.some.inj H
            go_wp2
            go_ret
            exact ⟨by first | rfl | (simp [errW_none, errW_some] <;> rfl) | (simp [*, errW_none, errW_some] <;> rfl) | (simp [i64_w]; done) | (simp [*, i64_w]; done) | (simp [Esame.out]; done) | (simp [*, Esame.out]; done), by repeat (first | (with_reducible first | exact HB.out | apply below_alloc | apply pw_below_drewN | apply below_drew1) | exact HB.out)⟩
        · replace c18 := Bool.eq_false_iff.mpr c18
          subst c18
          have H1 : ((impl_StickMany.f kj5 t261).bind fun bt275 => ((impl_StickMany.f kj5 t265).bind fun bt277 => (if bt275.2 = true then (if bt277.2 = true then (if bt277.1 ≥ bt275.1 then (if (t265.length : Int) = (wrap64 ((t261.length : Int) + 1)) then ((laws_total.f kj5 t265).bind fun t279 => ((laws_total.f kj5 t261).bind fun t280 => (some (t279 == (wrap64 (t280 + t262)))))) else (some false)) else (some false)) else (some false)) else (some false)))) = some r := by rw [if_neg (show ¬ (false = true) by decide)] at H; exact H
          clear H
          have H := H1
          clear H1
          replace H := Option.bind_eq_some_iff.mp H
          obtain ⟨⟨t275, t276⟩, A230, H⟩ := H
          replace H : ((impl_StickMany.f kj5 t265).bind fun bt277 => (if t276 = true then (if bt277.2 = true then (if bt277.1 ≥ t275 then (if (t265.length : Int) = (wrap64 ((t261.length : Int) + 1)) then ((laws_total.f kj5 t265).bind fun t279 => ((laws_total.f kj5 t261).bind fun t280 => (some (t279 == (wrap64 (t280 + t262)))))) else (some false)) else (some false)) else (some false)) else (some false))) = some r := H
          have A23 := Aside0.mk A230
          clear A230
          replace H := Option.bind_eq_some_iff.mp H
          obtain ⟨⟨t277, t278⟩, A240, H⟩ := H
          replace H : (if t276 = true then (if t278 = true then (if t277 ≥ t275 then (if (t265.length : Int) = (wrap64 ((t261.length : Int) + 1)) then ((laws_total.f kj5 t265).bind fun t279 => ((laws_total.f kj5 t261).bind fun t280 => (some (t279 == (wrap64 (t280 + t262)))))) else (some false)) else (some false)) else (some false)) else (some false)) = some r := H
          have A24 := Aside0.mk A240
          clear A240
          by_cases c25 : t276 = true
          · subst c25
            have H1 : (if t278 = true then (if t277 ≥ t275 then (if (t265.length : Int) = (wrap64 ((t261.length : Int) + 1)) then ((laws_total.f kj5 t265).bind fun t279 => ((laws_total.f kj5 t261).bind fun t280 => (some (t279 == (wrap64 (t280 + t262)))))) else (some false)) else (some false)) else (some false)) = some r := by rw [if_pos rfl] at H; exact H
            clear H
            have H := H1
            clear H1
            by_cases c26 : t278 = true
            · subst c26
              have H1 : (if t277 ≥ t275 then (if (t265.length : Int) = (wrap64 ((t261.length : Int) + 1)) then ((laws_total.f kj5 t265).bind fun t279 => ((laws_total.f kj5 t261).bind fun t280 => (some (t279 == (wrap64 (t280 + t262)))))) else (some false)) else (some false)) = some r := by rw [if_pos rfl] at H; exact H
              clear H
              have H := H1
              clear H1
              by_cases c27 : t277 ≥ t275
              · rw [if_pos c27] at H
                have c27b0 : decide (t275 ≤ t277) = true := decide_eq_true c27
                clear c27
                by_cases c28 : (t265.length : Int) = (wrap64 ((t261.length : Int) + 1))
                · rw [if_pos c28] at H
                  have c28b0 : ((t265.length : Int) == (wrap64 ((t261.length : Int) + 1))) = true := beq_iff_eq.mpr c28
                  have c28b1 : ((t265.length : Int) != (wrap64 ((t261.length : Int) + 1))) = false := bne_eq_false_iff_eq.mpr c28
                  clear c28
                  replace H := Option.bind_eq_some_iff.mp H
                  obtain ⟨t279, A290, H⟩ := H
                  replace H : ((laws_total.f kj5 t261).bind fun t280 => (some (t279 == (wrap64 (t280 + t262))))) = some r := H
                  have A29 := Aside0.mk A290
                  clear A290
                  replace H := Option.bind_eq_some_iff.mp H
                  obtain ⟨t280, A300, H⟩ := H
                  replace H : (some (t279 == (wrap64 (t280 + t262)))) = some r := H
                  have A30 := Aside0.mk A300
                  clear A300
                  obtain rfl := Option.some.inj H
                  go_wp2_with (first | ((with_reducible refine gate_callee (f := 23) rfl ?_); refine goesL_ (some 56) rfl rfl Try.func23 (by kernel_rfl) rfl #[.slice Ao8 t261.length co8] rfl (by (try simp only [List.map_toArray, List.map_cons, List.map_nil]); first | done | rfl | (simp only [List.length_drop, List.length_take]; rfl)) ?_; (with_reducible refine (impl_StickMany.calls kj5 _ _ t261 t275 true _ ?side1 ?side2 A23.out).mono ?_); (case side1 => repeat (first | exact (Kd.R_reads' HO_3.out).2.2 | (with_reducible refine Kd.C_alloc ?_ _) | (with_reducible refine Kd.C_drewN ?_ _) | (with_reducible refine Kd.C_drew ?_))); (case side2 => exact (Kd.R_reads' HO_3.out).2.1); rintro e w31 ⟨rfl, hb⟩; refine ⟨_, rfl, ?_⟩; have n0_ := Aside0.mk (Kd.R_below (by (with_reducible repeat (first | apply Kd.R_alloc | apply Kd.R_drewN | apply Kd.R_drew)); exact HO_3.out) hb); have n1_ := Aside0.mk (Kd.R_below (by (with_reducible repeat (first | apply Kd.R_alloc | apply Kd.R_drewN | apply Kd.R_drew)); exact HO_5.out) hb); have n2_ := Aside0.mk (Kd.R_below (by (with_reducible repeat (first | apply Kd.R_alloc | apply Kd.R_drewN | apply Kd.R_drew)); exact HO_7.out) hb); have n3_ := Aside0.mk (below_step (by repeat (first | (with_reducible first | exact HB.out | apply below_alloc | apply pw_below_drewN | apply below_drew1) | exact HB.out)) hb); clear HO_3; clear HO_5; clear HO_7; clear HB; have HO_3 := n0_; have HO_5 := n1_; have HO_7 := n2_; have HB := n3_; clear n0_ n1_ n2_ n3_; (try clear hb); (try clear hb2); (try clear hk); (try clear hi); obtain ⟨Ao32, co32, eo32⟩ := Kd.R_slice HO_5.out; subst eo32) | ((with_reducible refine gate_callee (f := 23) rfl ?_); refine goesL_ (some 61) rfl rfl Try.func23 (by kernel_rfl) rfl #[.slice Ao32 t265.length co32] rfl (by (try simp only [List.map_toArray, List.map_cons, List.map_nil]); first | done | rfl | (simp only [List.length_drop, List.length_take]; rfl)) ?_; (with_reducible refine (impl_StickMany.calls kj5 _ _ t265 t277 true _ ?side1 ?side2 A24.out).mono ?_); (case side1 => repeat (first | exact (Kd.R_reads' HO_5.out).2.2 | (with_reducible refine Kd.C_alloc ?_ _) | (with_reducible refine Kd.C_drewN ?_ _) | (with_reducible refine Kd.C_drew ?_))); (case side2 => exact (Kd.R_reads' HO_5.out).2.1); rintro e w33 ⟨rfl, hb⟩; refine ⟨_, rfl, ?_⟩; have n0_ := Aside0.mk (Kd.R_below (by (with_reducible repeat (first | apply Kd.R_alloc | apply Kd.R_drewN | apply Kd.R_drew)); exact HO_3.out) hb); have n1_ := Aside0.mk (Kd.R_below (by (with_reducible repeat (first | apply Kd.R_alloc | apply Kd.R_drewN | apply Kd.R_drew)); exact HO_5.out) hb); have n2_ := Aside0.mk (Kd.R_below (by (with_reducible repeat (first | apply Kd.R_alloc | apply Kd.R_drewN | apply Kd.R_drew)); exact HO_7.out) hb); have n3_ := Aside0.mk (below_step (by repeat (first | (with_reducible first | exact HB.out | apply below_alloc | apply pw_below_drewN | apply below_drew1) | exact HB.out)) hb); clear HO_3; clear HO_5; clear HO_7; clear HB; have HO_3 := n0_; have HO_5 := n1_; have HO_7 := n2_; have HB := n3_; clear n0_ n1_ n2_ n3_; (try clear hb); (try clear hb2); (try clear hk); (try clear hi)) | (go_at_call 16; (with_reducible refine (laws_total.calls kj5 _ _ t265 t279 _ ?side1 ?side2 A29.out).mono ?_); (case side1 => repeat (first | exact (Kd.R_reads' HO_5.out).2.2 | (with_reducible refine Kd.C_alloc ?_ _) | (with_reducible refine Kd.C_drewN ?_ _) | (with_reducible refine Kd.C_drew ?_))); (case side2 => exact (Kd.R_reads' HO_5.out).2.1); rintro e w' ⟨rfl, ⟨nd, rfl⟩⟩) | (go_at_call 16; (with_reducible refine (laws_total.calls kj5 _ _ t261 t280 _ ?side1 ?side2 A30.out).mono ?_); (case side1 => repeat (first | exact (Kd.R_reads' HO_3.out).2.2 | (with_reducible refine Kd.C_alloc ?_ _) | (with_reducible refine Kd.C_drewN ?_ _) | (with_reducible refine Kd.C_drew ?_))); (case side2 => exact (Kd.R_reads' HO_3.out).2.1); rintro e w' ⟨rfl, ⟨nd, rfl⟩⟩))
                  go_ret
                  exact ⟨by first | rfl | (simp [errW_none, errW_some] <;> rfl) | (simp [*, errW_none, errW_some] <;> rfl) | (simp [i64_w]; done) | (simp [*, i64_w]; done) | (simp [Esame.out]; done) | (simp [*, Esame.out]; done), by repeat (first | (with_reducible first | exact HB.out | apply below_alloc | apply pw_below_drewN | apply below_drew1) | exact HB.out)⟩
                · rw [if_neg c28] at H
                  have c28b0 : ((t265.length : Int) == (wrap64 ((t261.length : Int) + 1))) = false := beq_eq_false_iff_ne.mpr c28
                  have c28b1 : ((t265.length : Int) != (wrap64 ((t261.length : Int) + 1))) = true := bne_iff_ne.mpr c28
                  obtain rfl := Option.some.inj H
                  go_wp2_with (first | ((with_reducible refine gate_callee (f := 23) rfl ?_); refine goesL_ (some 56) rfl rfl Try.func23 (by kernel_rfl) rfl #[.slice Ao8 t261.length co8] rfl (by (try simp only [List.map_toArray, List.map_cons, List.map_nil]); first | done | rfl | (simp only [List.length_drop, List.length_take]; rfl)) ?_; (with_reducible refine (impl_StickMany.calls kj5 _ _ t261 t275 true _ ?side1 ?side2 A23.out).mono ?_); (case side1 => repeat (first | exact (Kd.R_reads' HO_3.out).2.2 | (with_reducible refine Kd.C_alloc ?_ _) | (with_reducible refine Kd.C_drewN ?_ _) | (with_reducible refine Kd.C_drew ?_))); (case side2 => exact (Kd.R_reads' HO_3.out).2.1); rintro e w34 ⟨rfl, hb⟩; refine ⟨_, rfl, ?_⟩; have n0_ := Aside0.mk (Kd.R_below (by (with_reducible repeat (first | apply Kd.R_alloc | apply Kd.R_drewN | apply Kd.R_drew)); exact HO_3.out) hb); have n1_ := Aside0.mk (Kd.R_below (by (with_reducible repeat (first | apply Kd.R_alloc | apply Kd.R_drewN | apply Kd.R_drew)); exact HO_5.out) hb); have n2_ := Aside0.mk (Kd.R_below (by (with_reducible repeat (first | apply Kd.R_alloc | apply Kd.R_drewN | apply Kd.R_drew)); exact HO_7.out) hb); have n3_ := Aside0.mk (below_step (by repeat (first | (with_reducible first | exact HB.out | apply below_alloc | apply pw_below_drewN | apply below_drew1) | exact HB.out)) hb); clear HO_3; clear HO_5; clear HO_7; clear HB; have HO_3 := n0_; have HO_5 := n1_; have HO_7 := n2_; have HB := n3_; clear n0_ n1_ n2_ n3_; (try clear hb); (try clear hb2); (try clear hk); (try clear hi); obtain ⟨Ao35, co35, eo35⟩ := Kd.R_slice HO_5.out; subst eo35) | ((with_reducible refine gate_callee (f := 23) rfl ?_); refine goesL_ (some 61) rfl rfl Try.func23 (by kernel_rfl) rfl #[.slice Ao35 t265.length co35] rfl (by (try simp only [List.map_toArray, List.map_cons, List.map_nil]); first | done | rfl | (simp only [List.length_drop, List.length_take]; rfl)) ?_; (with_reducible refine (impl_StickMany.calls kj5 _ _ t265 t277 true _ ?side1 ?side2 A24.out).mono ?_); (case side1 => repeat (first | exact (Kd.R_reads' HO_5.out).2.2 | (with_reducible refine Kd.C_alloc ?_ _) | (with_reducible refine Kd.C_drewN ?_ _) | (with_reducible refine Kd.C_drew ?_))); (case side2 => exact (Kd.R_reads' HO_5.out).2.1); rintro e w36 ⟨rfl, hb⟩; refine ⟨_, rfl, ?_⟩; have n0_ := Aside0.mk (Kd.R_below (by (with_reducible repeat (first | apply Kd.R_alloc | apply Kd.R_drewN | apply Kd.R_drew)); exact HO_3.out) hb); have n1_ := Aside0.mk (Kd.R_below (by (with_reducible repeat (first | apply Kd.R_alloc | apply Kd.R_drewN | apply Kd.R_drew)); exact HO_5.out) hb); have n2_ := Aside0.mk (Kd.R_below (by (with_reducible repeat (first | apply Kd.R_alloc | apply Kd.R_drewN | apply Kd.R_drew)); exact HO_7.out) hb); have n3_ := Aside0.mk (below_step (by repeat (first | (with_reducible first | exact HB.out | apply below_alloc | apply pw_below_drewN | apply below_drew1) | exact HB.out)) hb); clear HO_3; clear HO_5; clear HO_7; clear HB; have HO_3 := n0_; have HO_5 := n1_; have HO_7 := n2_; have HB := n3_; clear n0_ n1_ n2_ n3_; (try clear hb); (try clear hb2); (try clear hk); (try clear hi)))
                  go_ret
                  exact ⟨by first | rfl | (simp [errW_none, errW_some] <;> rfl) | (simp [*, errW_none, errW_some] <;> rfl) | (simp [i64_w]; done) | (simp [*, i64_w]; done) | (simp [Esame.out]; done) | (simp [*, Esame.out]; done), by repeat (first | (with_reducible first | exact HB.out | apply below_alloc | apply pw_below_drewN | apply below_drew1) | exact HB.out)⟩
              · rw [if_neg c27] at H
                have c27b0 : decide (t275 ≤ t277) = false := decide_eq_false c27
                clear c27
                obtain rfl := Option.some.inj H
                go_wp2_with (first | ((with_reducible refine gate_callee (f := 23) rfl ?_); refine goesL_ (some 56) rfl rfl Try.func23 (by kernel_rfl) rfl #[.slice Ao8 t261.length co8] rfl (by (try simp only [List.map_toArray, List.map_cons, List.map_nil]); first | done | rfl | (simp only [List.length_drop, List.length_take]; rfl)) ?_; (with_reducible refine (impl_StickMany.calls kj5 _ _ t261 t275 true _ ?side1 ?side2 A23.out).mono ?_); (case side1 => repeat (first | exact (Kd.R_reads' HO_3.out).2.2 | (with_reducible refine Kd.C_alloc ?_ _) | (with_reducible refine Kd.C_drewN ?_ _) | (with_reducible refine Kd.C_drew ?_))); (case side2 => exact (Kd.R_reads' HO_3.out).2.1); rintro e w37 ⟨rfl, hb⟩; refine ⟨_, rfl, ?_⟩; have n0_ := Aside0.mk (Kd.R_below (by (with_reducible repeat (first | apply Kd.R_alloc | apply Kd.R_drewN | apply Kd.R_drew)); exact HO_3.out) hb); have n1_ := Aside0.mk (Kd.R_below (by (with_reducible repeat (first | apply Kd.R_alloc | apply Kd.R_drewN | apply Kd.R_drew)); exact HO_5.out) hb); have n2_ := Aside0.mk (Kd.R_below (by (with_reducible repeat (first | apply Kd.R_alloc | apply Kd.R_drewN | apply Kd.R_drew)); exact HO_7.out) hb); have n3_ := Aside0.mk (below_step (by repeat (first | (with_reducible first | exact HB.out | apply below_alloc | apply pw_below_drewN | apply below_drew1) | exact HB.out)) hb); clear HO_3; clear HO_5; clear HO_7; clear HB; have HO_3 := n0_; have HO_5 := n1_; have HO_7 := n2_; have HB := n3_; clear n0_ n1_ n2_ n3_; (try clear hb); (try clear hb2); (try clear hk); (try clear hi); obtain ⟨Ao38, co38, eo38⟩ := Kd.R_slice HO_5.out; subst eo38) | ((with_reducible refine gate_callee (f := 23) rfl ?_); refine goesL_ (some 61) rfl rfl Try.func23 (by kernel_rfl) rfl #[.slice Ao38 t265.length co38] rfl (by (try simp only [List.map_toArray, List.map_cons, List.map_nil]); first | done | rfl | (simp only [List.length_drop, List.length_take]; rfl)) ?_; (with_reducible refine (impl_StickMany.calls kj5 _ _ t265 t277 true _ ?side1 ?side2 A24.out).mono ?_); (case side1 => repeat (first | exact (Kd.R_reads' HO_5.out).2.2 | (with_reducible refine Kd.C_alloc ?_ _) | (with_reducible refine Kd.C_drewN ?_ _) | (with_reducible refine Kd.C_drew ?_))); (case side2 => exact (Kd.R_reads' HO_5.out).2.1); rintro e w39 ⟨rfl, hb⟩; refine ⟨_, rfl, ?_⟩; have n0_ := Aside0.mk (Kd.R_below (by (with_reducible repeat (first | apply Kd.R_alloc | apply Kd.R_drewN | apply Kd.R_drew)); exact HO_3.out) hb); have n1_ := Aside0.mk (Kd.R_below (by (with_reducible repeat (first | apply Kd.R_alloc | apply Kd.R_drewN | apply Kd.R_drew)); exact HO_5.out) hb); have n2_ := Aside0.mk (Kd.R_below (by (with_reducible repeat (first | apply Kd.R_alloc | apply Kd.R_drewN | apply Kd.R_drew)); exact HO_7.out) hb); have n3_ := Aside0.mk (below_step (by repeat (first | (with_reducible first | exact HB.out | apply below_alloc | apply pw_below_drewN | apply below_drew1) | exact HB.out)) hb); clear HO_3; clear HO_5; clear HO_7; clear HB; have HO_3 := n0_; have HO_5 := n1_; have HO_7 := n2_; have HB := n3_; clear n0_ n1_ n2_ n3_; (try clear hb); (try clear hb2); (try clear hk); (try clear hi)))
                go_ret
                exact ⟨by first | rfl | (simp [errW_none, errW_some] <;> rfl) | (simp [*, errW_none, errW_some] <;> rfl) | (simp [i64_w]; done) | (simp [*, i64_w]; done) | (simp [Esame.out]; done) | (simp [*, Esame.out]; done), by repeat (first | (with_reducible first | exact HB.out | apply below_alloc | apply pw_below_drewN | apply below_drew1) | exact HB.out)⟩
            · replace c26 := Bool.eq_false_iff.mpr c26
              subst c26
              have H1 : (some false) = some r := by rw [if_neg (show ¬ (false = true) by decide)] at H; exact H
              clear H
              have H := H1
              clear H1
              obtain rfl := Option.some.inj H
              go_wp2_with (first | ((with_reducible refine gate_callee (f := 23) rfl ?_); refine goesL_ (some 56) rfl rfl Try.func23 (by kernel_rfl) rfl #[.slice Ao8 t261.length co8] rfl (by (try simp only [List.map_toArray, List.map_cons, List.map_nil]); first | done | rfl | (simp only [List.length_drop, List.length_take]; rfl)) ?_; (with_reducible refine (impl_StickMany.calls kj5 _ _ t261 t275 true _ ?side1 ?side2 A23.out).mono ?_); (case side1 => repeat (first | exact (Kd.R_reads' HO_3.out).2.2 | (with_reducible refine Kd.C_alloc ?_ _) | (with_reducible refine Kd.C_drewN ?_ _) | (with_reducible refine Kd.C_drew ?_))); (case side2 => exact (Kd.R_reads' HO_3.out).2.1); rintro e w40 ⟨rfl, hb⟩; refine ⟨_, rfl, ?_⟩; have n0_ := Aside0.mk (Kd.R_below (by (with_reducible repeat (first | apply Kd.R_alloc | apply Kd.R_drewN | apply Kd.R_drew)); exact HO_3.out) hb); have n1_ := Aside0.mk (Kd.R_below (by (with_reducible repeat (first | apply Kd.R_alloc | apply Kd.R_drewN | apply Kd.R_drew)); exact HO_5.out) hb); have n2_ := Aside0.mk (Kd.R_below (by (with_reducible repeat (first | apply Kd.R_alloc | apply Kd.R_drewN | apply Kd.R_drew)); exact HO_7.out) hb); have n3_ := Aside0.mk (below_step (by repeat (first | (with_reducible first | exact HB.out | apply below_alloc | apply pw_below_drewN | apply below_drew1) | exact HB.out)) hb); clear HO_3; clear HO_5; clear HO_7; clear HB; have HO_3 := n0_; have HO_5 := n1_; have HO_7 := n2_; have HB := n3_; clear n0_ n1_ n2_ n3_; (try clear hb); (try clear hb2); (try clear hk); (try clear hi); obtain ⟨Ao41, co41, eo41⟩ := Kd.R_slice HO_5.out; subst eo41) | ((with_reducible refine gate_callee (f := 23) rfl ?_); refine goesL_ (some 61) rfl rfl Try.func23 (by kernel_rfl) rfl #[.slice Ao41 t265.length co41] rfl (by (try simp only [List.map_toArray, List.map_cons, List.map_nil]); first | done | rfl | (simp only [List.length_drop, List.length_take]; rfl)) ?_; (with_reducible refine (impl_StickMany.calls kj5 _ _ t265 t277 false _ ?side1 ?side2 A24.out).mono ?_); (case side1 => repeat (first | exact (Kd.R_reads' HO_5.out).2.2 | (with_reducible refine Kd.C_alloc ?_ _) | (with_reducible refine Kd.C_drewN ?_ _) | (with_reducible refine Kd.C_drew ?_))); (case side2 => exact (Kd.R_reads' HO_5.out).2.1); rintro e w42 ⟨rfl, hb⟩; refine ⟨_, rfl, ?_⟩; have n0_ := Aside0.mk (Kd.R_below (by (with_reducible repeat (first | apply Kd.R_alloc | apply Kd.R_drewN | apply Kd.R_drew)); exact HO_3.out) hb); have n1_ := Aside0.mk (Kd.R_below (by (with_reducible repeat (first | apply Kd.R_alloc | apply Kd.R_drewN | apply Kd.R_drew)); exact HO_5.out) hb); have n2_ := Aside0.mk (Kd.R_below (by (with_reducible repeat (first | apply Kd.R_alloc | apply Kd.R_drewN | apply Kd.R_drew)); exact HO_7.out) hb); have n3_ := Aside0.mk (below_step (by repeat (first | (with_reducible first | exact HB.out | apply below_alloc | apply pw_below_drewN | apply below_drew1) | exact HB.out)) hb); clear HO_3; clear HO_5; clear HO_7; clear HB; have HO_3 := n0_; have HO_5 := n1_; have HO_7 := n2_; have HB := n3_; clear n0_ n1_ n2_ n3_; (try clear hb); (try clear hb2); (try clear hk); (try clear hi)))
              go_ret
              exact ⟨by first | rfl | (simp [errW_none, errW_some] <;> rfl) | (simp [*, errW_none, errW_some] <;> rfl) | (simp [i64_w]; done) | (simp [*, i64_w]; done) | (simp [Esame.out]; done) | (simp [*, Esame.out]; done), by repeat (first | (with_reducible first | exact HB.out | apply below_alloc | apply pw_below_drewN | apply below_drew1) | exact HB.out)⟩
          · replace c25 := Bool.eq_false_iff.mpr c25
            subst c25
            have H1 : (some false) = some r := by rw [if_neg (show ¬ (false = true) by decide)] at H; exact H
            clear H
            have H := H1
            clear H1
            obtain rfl := Option.some.inj H
            go_wp2_with (first | ((with_reducible refine gate_callee (f := 23) rfl ?_); refine goesL_ (some 56) rfl rfl Try.func23 (by kernel_rfl) rfl #[.slice Ao8 t261.length co8] rfl (by (try simp only [List.map_toArray, List.map_cons, List.map_nil]); first | done | rfl | (simp only [List.length_drop, List.length_take]; rfl)) ?_; (with_reducible refine (impl_StickMany.calls kj5 _ _ t261 t275 false _ ?side1 ?side2 A23.out).mono ?_); (case side1 => repeat (first | exact (Kd.R_reads' HO_3.out).2.2 | (with_reducible refine Kd.C_alloc ?_ _) | (with_reducible refine Kd.C_drewN ?_ _) | (with_reducible refine Kd.C_drew ?_))); (case side2 => exact (Kd.R_reads' HO_3.out).2.1); rintro e w43 ⟨rfl, hb⟩; refine ⟨_, rfl, ?_⟩; have n0_ := Aside0.mk (Kd.R_below (by (with_reducible repeat (first | apply Kd.R_alloc | apply Kd.R_drewN | apply Kd.R_drew)); exact HO_3.out) hb); have n1_ := Aside0.mk (Kd.R_below (by (with_reducible repeat (first | apply Kd.R_alloc | apply Kd.R_drewN | apply Kd.R_drew)); exact HO_5.out) hb); have n2_ := Aside0.mk (Kd.R_below (by (with_reducible repeat (first | apply Kd.R_alloc | apply Kd.R_drewN | apply Kd.R_drew)); exact HO_7.out) hb); have n3_ := Aside0.mk (below_step (by repeat (first | (with_reducible first | exact HB.out | apply below_alloc | apply pw_below_drewN | apply below_drew1) | exact HB.out)) hb); clear HO_3; clear HO_5; clear HO_7; clear HB; have HO_3 := n0_; have HO_5 := n1_; have HO_7 := n2_; have HB := n3_; clear n0_ n1_ n2_ n3_; (try clear hb); (try clear hb2); (try clear hk); (try clear hi); obtain ⟨Ao44, co44, eo44⟩ := Kd.R_slice HO_5.out; subst eo44) | ((with_reducible refine gate_callee (f := 23) rfl ?_); refine goesL_ (some 61) rfl rfl Try.func23 (by kernel_rfl) rfl #[.slice Ao44 t265.length co44] rfl (by (try simp only [List.map_toArray, List.map_cons, List.map_nil]); first | done | rfl | (simp only [List.length_drop, List.length_take]; rfl)) ?_; (with_reducible refine (impl_StickMany.calls kj5 _ _ t265 t277 t278 _ ?side1 ?side2 A24.out).mono ?_); (case side1 => repeat (first | exact (Kd.R_reads' HO_5.out).2.2 | (with_reducible refine Kd.C_alloc ?_ _) | (with_reducible refine Kd.C_drewN ?_ _) | (with_reducible refine Kd.C_drew ?_))); (case side2 => exact (Kd.R_reads' HO_5.out).2.1); rintro e w45 ⟨rfl, hb⟩; refine ⟨_, rfl, ?_⟩; have n0_ := Aside0.mk (Kd.R_below (by (with_reducible repeat (first | apply Kd.R_alloc | apply Kd.R_drewN | apply Kd.R_drew)); exact HO_3.out) hb); have n1_ := Aside0.mk (Kd.R_below (by (with_reducible repeat (first | apply Kd.R_alloc | apply Kd.R_drewN | apply Kd.R_drew)); exact HO_5.out) hb); have n2_ := Aside0.mk (Kd.R_below (by (with_reducible repeat (first | apply Kd.R_alloc | apply Kd.R_drewN | apply Kd.R_drew)); exact HO_7.out) hb); have n3_ := Aside0.mk (below_step (by repeat (first | (with_reducible first | exact HB.out | apply below_alloc | apply pw_below_drewN | apply below_drew1) | exact HB.out)) hb); clear HO_3; clear HO_5; clear HO_7; clear HB; have HO_3 := n0_; have HO_5 := n1_; have HO_7 := n2_; have HB := n3_; clear n0_ n1_ n2_ n3_; (try clear hb); (try clear hb2); (try clear hk); (try clear hi)))
            go_ret
            exact ⟨by first | rfl | (simp [errW_none, errW_some] <;> rfl) | (simp [*, errW_none, errW_some] <;> rfl) | (simp [i64_w]; done) | (simp [*, i64_w]; done) | (simp [Esame.out]; done) | (simp [*, Esame.out]; done), by repeat (first | (with_reducible first | exact HB.out | apply below_alloc | apply pw_below_drewN | apply below_drew1) | exact HB.out)⟩

/-- THE ONE PURE STATEMENT of laws_FnPut: yours. -/
def laws_FnPut.Pure : Prop := ∀ (l0 : List Int), l0.length ≤ maxLen → l0.length * 1 ≤ 140737488351232 → (∀ x ∈ l0, (Lit.int .u8 x).wf = true) → ∃ k, laws_FnPut.f k l0 = some true
theorem laws_FnPut.walk (P : laws_FnPut.Pure) (a0 : Option Addr) (len0 cap0 : Nat) (z0 : List Int) (w : World) (w0 : (a0 = none ∧ len0 = 0 ∧ cap0 = 0 ∧ z0 = []) ∨ ∃ x, a0 = some x ∧ len0 ≤ cap0 ∧ cap0 ≤ maxLen ∧ z0.length = cap0 ∧ (∀ i, i < z0.length → w.cell? (x.add i) = some (.int .u8 (z0.getD i 0))) ∧ ∀ n ∈ z0, (Lit.int .u8 n).wf = true) (y0 : len0 * 1 ≤ 140737488351232) :
    Calls Try.prog 5 #[.slice a0 len0 cap0] w fun e w' => e = .returned (.bool true) ∧ Below w.heap.size w w' := by
  obtain ⟨l0, rfl, hr0, hm0, hw0, hc0⟩ := ReadsInt.ofRowC w0
  obtain ⟨k, h⟩ := P l0 hm0 y0 hw0
  refine (laws_FnPut.calls k _ _ l0 true w (Kd.C_of_reads (d := (0 : Int)) (h1 := fun _ => rfl) hr0) hc0 h).mono ?_
  rintro e w' ⟨rfl, hd⟩
  exact ⟨rfl, hd⟩

end Go.Proofs.Ytagcakhpjjbilaa.QFnPut
