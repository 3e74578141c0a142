-- Written by a program of this session (wip/myprint.py, over the kit's print) for the law FnExactTriWhole.
import Derived.Test.YtagdncgnkkibhaaQFnExactTriWholex0
import Derived.Test.YtagdncgnkkibhaaQFnExactTriWholex2
namespace Go.Proofs.Ytagdncgnkkibhaa.QFnExactTriWhole
open Go.RowKit Go.Proofs.YtagdncgnkkibhaaW.PrintWords Go.Proofs.YtagdncgnkkibhaaW.PrintLast Go.Proofs.YtagdncgnkkibhaaW.PrintMore
attribute [local go_sem] max2_int min2_int max_two min_two max_three min_three max_four min_four   -- for this text's walks alone
set_option linter.unusedVariables false
set_option linter.unusedSimpArgs false

/-! ### impl_TriWhole: function 17 -/
/-- list's rows lie below n, each with its number (fL); out's rows lie from n on, or are rows of list with a number below m. -/
def impl_TriWholeI (n : Nat) (fL : Nat → Nat) (vL : Value) (t : List (List Int)) (w W : World) (vO : Value) (out : List (List Int)) (m : Nat) : Prop :=
  n ≤ W.heap.size ∧ (Kd.tag fL (Kd.slice 3 (Kd.int .i64))).R 28 W w.heap.size (fun k => k < n) vL t.zipIdx ∧ Kd.S (Kd.slice 3 (Kd.int .i64)) 28 W w.heap.size (fun k => n ≤ k ∨ fL k < m) vO out ∧ (∀ k, vO.ownBlock = some k → n ≤ k) ∧ Below w.heap.size w W
section impl_TriWholeS
variable {n m : Nat} {fL : Nat → Nat} {vL vO : Value} {t out : List (List Int)} {w W : World}
theorem impl_TriWholeI.init {ok ok' : Nat → Prop} {W5 : World} (hL : Kd.S (Kd.slice 3 (Kd.int .i64)) 28 W w.heap.size ok vL t) (hO : Kd.S (Kd.slice 3 (Kd.int .i64)) 28 W5 W.heap.size ok' vO []) (hb : Below W.heap.size W W5) (hB : Below w.heap.size w W) : ∃ n fL, impl_TriWholeI n fL vL t w W5 vO [] 0 := by
  obtain ⟨fL, hL⟩ := hL
  exact ⟨W.heap.size, fL, hb.size, Kd.R_below (Kd.R_mono (Kd.R_bound hL) (fun _ hk => hk.2.2.1)) hb, Kd.S_lower (Kd.S_mono (Kd.S_bound hO) (fun _ hk => .inl hk.2.1)) hB.size, Kd.S_base hO, below_step hB hb⟩
theorem impl_TriWholeI.more {m' : Nat} (h : impl_TriWholeI n fL vL t w W vO out m) (hm : m ≤ m') : impl_TriWholeI n fL vL t w W vO out m' := ⟨h.1, h.2.1, Kd.S_mono h.2.2.1 (fun _ hk => hk.imp id (fun h => Nat.lt_of_lt_of_le h hm)), h.2.2.2⟩
theorem impl_TriWholeI.drewN (h : impl_TriWholeI n fL vL t w W vO out m) (j : Nat) : impl_TriWholeI n fL vL t w (W.drewN j) vO out m := ⟨h.1, Kd.R_drewN h.2.1 j, Kd.S_drewN h.2.2.1 j, h.2.2.2.1, pw_below_drewN h.2.2.2.2 j⟩
theorem impl_TriWholeI.get {AL : Option Addr} {len cL : Nat} (h : impl_TriWholeI n fL (.slice AL len cL) t w W vO out m) (i : Nat) (hi : i < t.length) : ∃ (g : Nat) (Av : Option Addr) (cv : Nat) (row : List Int), row = t.getD i [] ∧ AL = some ⟨g, 0, none⟩ ∧ len = t.length ∧ W.cell? ⟨g, i, none⟩ = some (.slice Av row.length cv) ∧ Kd.R (Kd.int .i64) 3 W w.heap.size (fun k => k < n ∧ fL k = i) (.slice Av row.length cv) row := by
  have hR := h.2.1
  have hn := (Kd.R_reads' hR).1
  rw [List.length_zipIdx] at hn
  obtain ⟨g, cap, he, _⟩ := Kd.R_form hR (by rw [List.length_zipIdx]; omega)
  injection he with e1 e2 e3
  subst e1
  obtain ⟨c, hcl, hM, hcc, _⟩ := Kd.R_elem hR (([] : List Int), 0) (i : Int) (by omega) (by omega)
  rw [Int.toNat_natCast] at hM hcc
  have hx : t.zipIdx.getD i (([] : List Int), 0) = (t.getD i [], i) := by
    rw [List.getD_eq_getElem?_getD, List.getElem?_zipIdx, List.getD_eq_getElem?_getD, List.getElem?_eq_getElem hi]
    simp
  rw [hx] at hM
  obtain ⟨v, rfl, hv⟩ := hM
  obtain ⟨Av, cv, rfl⟩ := Kd.R_slice hv
  refine ⟨g, Av, cv, _, rfl, rfl, hn, ?_, Kd.R_mono hv (fun k hk => ⟨hk.1.1, hk.2⟩)⟩
  have := hcc 0 _ rfl
  simpa [Kd.tag, Kd.slice] using this
theorem impl_TriWholeI.put {v1 : Value} {w1 : World} {row : List Int} (h : impl_TriWholeI n fL vL t w W vO out m) (hS : Kd.S (Kd.slice 3 (Kd.int .i64)) 28 w1 w.heap.size (fun k => n ≤ k ∨ fL k < m + 1) v1 (out ++ [row])) (hB : Below w.heap.size w w1) (hg : W.grownBy w1 vO.ownBlock) (ha : v1.ownBlock = vO.ownBlock ∨ ∃ b, v1.ownBlock = some b ∧ W.heap.size ≤ b) : impl_TriWholeI n fL vL t w w1 v1 (out ++ [row]) (m + 1) := by
  refine ⟨Nat.le_trans h.1 hg.size, Kd.R_grown h.2.1 hg (fun k hk he => ?_), hS, fun k hk => ?_, hB⟩
  · have := h.2.2.2.1 k he.symm
    omega
  · rcases ha with e | ⟨b, e, hb⟩
    · exact h.2.2.2.1 k (e.symm.trans hk)
    · rw [e] at hk
      injection hk with hk
      have := h.1
      omega
end impl_TriWholeS
mutual
def impl_TriWhole.l0 : Nat → List (List Int) → Int → List (List Int) → Option (List (List Int) × Bool)
  | 0, _, _, _ => none
  | k + 1, t, i, out => if i < (t.length : Int) then (if 0 ≤ i then ((impl_TriArea.f k (t.getD i.toNat [])).bind fun bt => (impl_TriWhole.l1 k t i out bt.1 1 false)) else (none)) else (some (out, true))
def impl_TriWhole.l1 : Nat → List (List Int) → Int → List (List Int) → Int → Int → Bool → Option (List (List Int) × Bool)
  | 0, _, _, _, _, _, _ => none
  | k + 1, t, i, out, n, x, b => if (wrap64 ((wrap64 (16 * x)) * x)) ≤ n then (if (wrap64 ((wrap64 (16 * x)) * x)) = n then (if b = true then (none) else (if out.length < 5864062014805 then (impl_TriWhole.l1 k t i (out ++ [t.getD i.toNat []]) n (wrap64 (x + 1)) true) else (none))) else (impl_TriWhole.l1 k t i out n (wrap64 (x + 1)) b)) else (impl_TriWhole.l0 k t (wrap64 (i + 1)) out)
end
def impl_TriWhole.f (k : Nat) (a0 : Int) : Option (List (List Int) × Bool) := (impl_TriAll.f k a0).bind fun bt => (if bt.2 = true then (impl_TriWhole.l0 k bt.1 0 []) else (some (([] : List (List Int)), false)))
theorem impl_TriWhole.mono_l : ∀ k, (∀ y0 y1 y2, LeO (impl_TriWhole.l0 k y0 y1 y2) (impl_TriWhole.l0 (k + 1) y0 y1 y2)) ∧ (∀ y0 y1 y2 y3 y4 y5, LeO (impl_TriWhole.l1 k y0 y1 y2 y3 y4 y5) (impl_TriWhole.l1 (k + 1) y0 y1 y2 y3 y4 y5))
  | 0 => ⟨fun _ _ _ r h => by simp [impl_TriWhole.l0] at h, fun _ _ _ _ _ _ r h => by simp [impl_TriWhole.l1] at h⟩
  | k + 1 => by
    obtain ⟨ih0, ih1⟩ := impl_TriWhole.mono_l k
    refine ⟨?_, ?_⟩
    · intro y0 y1 y2
      unfold impl_TriWhole.l0
      repeat' first
      | (with_reducible exact ih1 _ _ _ _ _ _)
      | (with_reducible exact impl_TriArea.mono _ _)
      | (with_reducible exact LeO.refl _)
      | (with_reducible exact LeO.none _)
      | (with_reducible refine LeO.ite ?_ ?_)
      | (with_reducible refine LeO.bind ?_ (fun _ => ?_))
    · intro y0 y1 y2 y3 y4 y5
      unfold impl_TriWhole.l1
      repeat' first
      | (with_reducible exact ih0 _ _ _)
      | (with_reducible exact ih1 _ _ _ _ _ _)
      | (with_reducible exact LeO.refl _)
      | (with_reducible exact LeO.none _)
      | (with_reducible refine LeO.ite ?_ ?_)
theorem impl_TriWhole.mono : ∀ a0 k, LeO (impl_TriWhole.f k a0) (impl_TriWhole.f (k + 1) a0) := by
  intro a0 k
  obtain ⟨ih0, ih1⟩ := impl_TriWhole.mono_l k
  unfold impl_TriWhole.f
  repeat' first
      | (with_reducible exact ih0 _ _ _)
      | (with_reducible exact impl_TriAll.mono _ _)
      | (with_reducible exact LeO.refl _)
      | (with_reducible refine LeO.ite ?_ ?_)
      | (with_reducible refine LeO.bind ?_ (fun _ => ?_))
set_option maxHeartbeats 8000000 in
set_option maxRecDepth 100000 in
theorem impl_TriWhole.calls (k : Nat) (a0 : Int) (r1 : List (List Int)) (r2 : Bool) (w : World) (h : impl_TriWhole.f k a0 = some (r1, r2)) :
    Calls Try.prog 17 #[.int .i64 a0] w fun e w' => ∃ v0_ : Value, e = .returned (.tuple #[v0_, .bool r2]) ∧ Kd.S (Kd.slice 3 (Kd.int .i64)) 28 w' w.heap.size (fun _ => True) v0_ r1 ∧ Below w.heap.size w w' := by
  have HB := Aside0.mk (Below.refl w.heap.size w)
  obtain ⟨⟨t, okb⟩, hA, h⟩ := Option.bind_eq_some_iff.mp h
  have HA0 := Aside0.mk hA
  clear hA
  cases okb with
  | false =>
    rw [if_neg (show ¬ (false = true) by decide)] at h
    simp only [Option.some.injEq, Prod.mk.injEq] at h
    obtain ⟨rfl, rfl⟩ := h
    go_enter Try.func17, Try.ntmps17
    go_wp2_with (first | ((with_reducible refine gate_callee (f := 8) rfl ?_); refine goesL_ (some 14) rfl rfl Try.func8 (by kernel_rfl) rfl #[.int .i64 a0] rfl (by (try simp only [List.map_toArray, List.map_cons, List.map_nil]); first | done | rfl) ?_; (with_reducible refine (impl_TriAll.calls k a0 t false _ HA0.out).mono ?_); rintro e w1 ⟨vL, rfl, ho0, hb⟩; refine ⟨_, rfl, ?_⟩; have HB1 := Aside0.mk (below_step HB.out hb); clear hb ho0))
    go_ret2
    exact ⟨_, by first | rfl | (simp; done), Kd.S_nil _ _ _ _ _, HB1.out⟩
  | true =>
    rw [if_pos rfl] at h
    have H' := Aside0.mk h
    clear h
    go_enter Try.func17, Try.ntmps17
    go_wp2_with (first | ((with_reducible refine gate_callee (f := 8) rfl ?_); refine goesL_ (some 14) rfl rfl Try.func8 (by kernel_rfl) rfl #[.int .i64 a0] rfl (by (try simp only [List.map_toArray, List.map_cons, List.map_nil]); first | done | rfl) ?_; (with_reducible refine (impl_TriAll.calls k a0 t true _ HA0.out).mono ?_); rintro e w1 ⟨vL, rfl, ho0, hb⟩; refine ⟨_, rfl, ?_⟩; have HB1 := Aside0.mk (below_step HB.out hb); have HL := Aside0.mk (Kd.S_lower ho0 (below_size HB.out)); clear hb ho0; obtain ⟨AL, cL, rfl⟩ := Kd.S_slice HL.out) | ((with_reducible refine gate_dst (N := 19) rfl ?_); refine Kd.S_lit (Kd.slice 3 (Kd.int .i64)) _ 28 ?hg (N := 19) ?hd (xs := ([] : List (List Int))) (inner := []) (ok := fun _ => True) (okp := fun _ => True) ?hr ?hp (fun _ hk => hk) trivial (Below.refl _ _) (Nat.le_refl _) (by simp) ?_; (case hd => rfl); (case hg => rfl); (case hr => first | (go_simp; done) | (go_simp; rfl)); (case hp => exact (Reps.none _ _)); intro v102 w5 ho6 hb hg_ hnew_; clear hg_ hnew_; obtain ⟨n, fL, HI⟩ := impl_TriWholeI.init HL.out ho6 hb HB1.out; have HI := Aside0.mk HI; clear hb ho6))
    go_loopg [6, 22] k (fun kq v6 v22 w' => ∃ (out : List (List Int)) (i : Int), v22 = .int .i64 i ∧ Aside0 (impl_TriWhole.l0 kq t i out = some (r1, r2)) ∧ Aside0 (kq ≤ k) ∧ Aside0 (impl_TriWholeI n fL (.slice AL t.length cL) t w w' v6 out i.toNat))
    case atStart => exact ⟨[], 0, rfl, H', ⟨Nat.le_refl _⟩, HI⟩
    case round =>
      clear H' HI HL HB1 HB
      obtain ⟨out, i, rfl, HA, HK1, HI⟩ := hrel
      cases gk with
      | zero => exact absurd HA.out (by simp [impl_TriWhole.l0])
      | succ k1 =>
        have H := HA.out
        clear HA
        simp only [impl_TriWhole.l0] at H
        by_cases c1 : i < (t.length : Int)
        · rw [if_pos c1] at H
          have c1b := decide_eq_true c1
          by_cases c2 : 0 ≤ i
          · rw [if_pos c2] at H
            obtain ⟨⟨nn, okn⟩, hT, H⟩ := Option.bind_eq_some_iff.mp H
            obtain ⟨g, Av, cv, row, hrow, rfl, _, hcell, hR⟩ := HI.out.get i.toNat (by omega)
            rw [← hrow] at hT
            have HT := Aside0.mk hT
            have H' := Aside0.mk (show impl_TriWhole.l1 k1 t i out nn 1 false = some (r1, r2) from H)
            clear H hT
            have HR := Aside0.mk hR
            have HC := Aside0.mk (Kd.R_reads' hR).2
            clear hR
            have hi1 : (wrap64 (i + 1)).toNat = i.toNat + 1 := by
              have := (Kd.R_reads' HI.out.2.1).2.2.2.1
              rw [List.length_zipIdx] at this
              unfold wrap64
              omega
            have p5 : (0 ≤ i) = True := eq_true c2
            have q5 : (i < (t.length : Int)) = True := eq_true c1
            have HI1 := Aside0.mk hi1
            have HROW := Aside0.mk hrow
            clear hi1 hrow c1 c2
            go_wp2_with (first | ((with_reducible refine gate_callee (f := 19) rfl ?_); refine goesL_ (some 28) rfl rfl Try.func19 (by kernel_rfl) rfl #[.slice Av row.length cv] rfl (by (try simp only [List.map_toArray, List.map_cons, List.map_nil]); first | done | rfl) ?_; (with_reducible refine (impl_TriArea.calls k1 Av cv row nn okn _ HC.out.2 HC.out.1 HT.out).mono ?_); rintro e w9 ⟨rfl, ⟨nd, rfl⟩⟩; refine ⟨_, rfl, ?_⟩))
            go_loopg [6, 11] k1 (fun kq v6 v11 w' => ∃ (out : List (List Int)) (x : Int) (b : Bool), v11 = .int .i64 x ∧ Aside0 (impl_TriWhole.l1 kq t i out nn x b = some (r1, r2)) ∧ Aside0 (kq ≤ k1) ∧ Aside0 (impl_TriWholeI n fL (.slice (some ⟨g, 0, none⟩) t.length cL) t w w' v6 out (i.toNat + b.toNat)) ∧ Aside0 (Kd.R (Kd.int .i64) 3 w' w.heap.size (fun k_ => k_ < n ∧ fL k_ = i.toNat) (.slice Av row.length cv) row))
            case atStart => exact ⟨out, 1, false, rfl, H', ⟨Nat.le_refl _⟩, ⟨HI.out.drewN nd⟩, ⟨Kd.R_drewN HR.out nd⟩⟩
            case round =>
              clear H' HI HR
              obtain ⟨out, x, b, rfl, HA, HK2, HI, HR⟩ := hrel
              cases gk with
              | zero => exact absurd HA.out (by simp [impl_TriWhole.l1])
              | succ k2 =>
                have H := HA.out
                clear HA
                simp only [impl_TriWhole.l1] at H
                by_cases c3 : (wrap64 ((wrap64 (16 * x)) * x)) ≤ nn
                · rw [if_pos c3] at H
                  have c3b := decide_eq_true c3
                  by_cases c4 : (wrap64 ((wrap64 (16 * x)) * x)) = nn
                  · rw [if_pos c4] at H
                    have c4b : ((wrap64 ((wrap64 (16 * x)) * x)) == nn) = true := beq_iff_eq.mpr c4
                    clear c3 c4
                    cases b with
                    | true =>
                      rw [if_pos rfl] at H
                      exact absurd H (by simp)
                    | false =>
                      rw [if_neg (by decide)] at H
                      by_cases c5 : out.length < 5864062014805
                      · rw [if_pos c5, ← HROW.out] at H
                        obtain ⟨y, hy⟩ : ∃ y : List (List Int), y = out ++ [row] := ⟨_, rfl⟩
                        have H' := Aside0.mk (show impl_TriWhole.l1 k2 t i y nn (wrap64 (x + 1)) true = some (r1, r2) by rw [hy]; exact H)
                        have HY := Aside0.mk hy
                        have LM := Aside0.mk c5
                        have HI0 := Aside0.mk (show impl_TriWholeI n fL (.slice (some ⟨g, 0, none⟩) t.length cL) t w wr u6 out i.toNat from HI.out)
                        clear H hy c5 HI
                        go_wp2_with (first | ((with_reducible refine gate_builtin (b := .append) (xs := #[.tmp 45, .tmp 47]) rfl ?_); at_builtin; refine Kd.S_append (Kd.slice 3 (Kd.int .i64)) (w0 := w) w.heap.size rfl (.tmp 45) (.tmp 47) 24 28 (.slice none 0 0) 24 rfl Try.underlying24 info28 rfl (by decide) (by omega) u6 out row [.slice Av row.length cv] (fun k_ => n ≤ k_ ∨ fL k_ < i.toNat + 1) (fun k_ => k_ < n ∧ fL k_ = i.toNat) rfl rfl ?aP ?aK ?aF ?aO ?aB ?aS ?aL ?_; (case aP => exact Kd.M_row HR.out); (case aK => exact fun k_ hk_ => ⟨.inr (by omega), fun e_ => by have := HI0.out.2.2.2.1 k_ e_.symm; omega⟩); (case aF => exact fun k_ hk_ => .inl (Nat.le_trans HI0.out.1 hk_)); (case aO => exact Kd.S_mono HI0.out.2.2.1 (fun k_ hk_ => ⟨by omega, by omega⟩)); (case aB => exact HI0.out.2.2.2.2); (case aS => exact below_size HI0.out.2.2.2.2); (case aL => have := LM.out; omega); intro v1 w1 ho hb hg hat; have HI2 := impl_TriWholeI.put HI0.out ho hb hg hat; rw [← HY.out] at HI2; have HI2 := Aside0.mk HI2; have HR2 := Aside0.mk (Kd.R_grown HR.out hg (fun k_ hk_ e_ => by have := HI0.out.2.2.2.1 k_ e_.symm; omega)); clear ho hb hg hat))
                        go_roundg k2
                        case measure => have := HK1.out; have := HK2.out; omega
                        case rel => exact ⟨y, wrap64 (x + 1), true, (by first | rfl | (simp [i64_w]; done)), H', ⟨by have := HK2.out; omega⟩, HI2, HR2⟩
                      · rw [if_neg c5] at H
                        exact absurd H (by simp)
                  · rw [if_neg c4] at H
                    have c4b : ((wrap64 ((wrap64 (16 * x)) * x)) == nn) = false := beq_eq_false_iff_ne.mpr c4
                    have H' := Aside0.mk H
                    clear c3 c4 H
                    go_wp2
                    go_roundg k2
                    case measure => have := HK1.out; have := HK2.out; omega
                    case rel => exact ⟨out, wrap64 (x + 1), b, (by first | rfl | (simp [i64_w]; done)), H', ⟨by have := HK2.out; omega⟩, HI, HR⟩
                · rw [if_neg c3] at H
                  have c3b := decide_eq_false c3
                  have H' := Aside0.mk H
                  clear c3 H
                  go_wp2
                  go_roundg k2
                  case measure => have := HK1.out; have := HK2.out; omega
                  case rel => exact ⟨out, wrap64 (i + 1), (by first | rfl | (simp [i64_w]; done)), H', ⟨by have := HK1.out; have := HK2.out; omega⟩, ⟨by rw [HI1.out]; exact HI.out.more (by cases b <;> simp)⟩⟩
          · rw [if_neg c2] at H
            exact absurd H (by simp)
        · rw [if_neg c1] at H
          have c1b := decide_eq_false c1
          simp only [Option.some.injEq, Prod.mk.injEq] at H
          obtain ⟨rfl, rfl⟩ := H
          go_wp2
          go_ret2
          exact ⟨_, by first | rfl | (simp; done), Kd.S_mono HI.out.2.2.1 (fun _ _ => trivial), HI.out.2.2.2.2⟩

/-! ### spec_l6In: function 22 -/
def spec_l6In.f (a0 : Int) (a1 : Int) (a2 : Int) : Option (Bool) := if a0 ≥ a1 then (some (decide (a0 ≤ a2))) else (some false)
set_option maxHeartbeats 8000000 in
set_option maxRecDepth 100000 in
theorem spec_l6In.calls (a0 : Int) (a1 : Int) (a2 : Int) (r : Bool) (w : World) (h : spec_l6In.f a0 a1 a2 = some r) :
    Calls Try.prog 22 #[.int .i64 a0, .int .i64 a1, .int .i64 a2] w fun e w' => e = .returned (.bool r) ∧ Drawn0 w w' := by
  have H : (if a0 ≥ a1 then (some (decide (a0 ≤ a2))) else (some false)) = some r := h
  clear h
  by_cases c4 : a0 ≥ a1
  · rw [if_pos c4] at H
    have c4b0 : decide (a1 ≤ a0) = true := decide_eq_true c4
    clear c4
    obtain rfl := Option.some.inj H
    go_enter Try.func22, Try.ntmps22
    go_wp2
    go_ret
    exact ⟨by first | rfl | (simp; done) | (simp [*]; done) | (simp [i64_w]; done) | (simp [*, i64_w]; done) | (simp [Esame.out]; done) | (simp [*, Esame.out]; done), by repeat (first | exact Drawn0.refl _ | apply Drawn0.step)⟩
  · rw [if_neg c4] at H
    have c4b0 : decide (a1 ≤ a0) = false := decide_eq_false c4
    clear c4
    obtain rfl := Option.some.inj H
    go_enter Try.func22, Try.ntmps22
    go_wp2
    go_ret
    exact ⟨by first | rfl | (simp; done) | (simp [*]; done) | (simp [i64_w]; done) | (simp [*, i64_w]; done) | (simp [Esame.out]; done) | (simp [*, Esame.out]; done), by repeat (first | exact Drawn0.refl _ | apply Drawn0.step)⟩

/-! ### spec_l1Three: function 33 -/
def spec_l1Three.f (a0 : Int) (a1 : Int) (a2 : Int) : Option (Bool) := if a0 < (wrap64 (a1 + a2)) then (if a1 < (wrap64 (a0 + a2)) then (some (decide (a2 < (wrap64 (a0 + a1))))) else (some false)) else (some false)
set_option maxHeartbeats 8000000 in
set_option maxRecDepth 100000 in
theorem spec_l1Three.calls (a0 : Int) (a1 : Int) (a2 : Int) (r : Bool) (w : World) (h : spec_l1Three.f a0 a1 a2 = some r) :
    Calls Try.prog 33 #[.int .i64 a0, .int .i64 a1, .int .i64 a2] w fun e w' => e = .returned (.bool r) ∧ Drawn0 w w' := by
  have H : (if a0 < (wrap64 (a1 + a2)) then (if a1 < (wrap64 (a0 + a2)) then (some (decide (a2 < (wrap64 (a0 + a1))))) else (some false)) else (some false)) = some r := h
  clear h
  by_cases c4 : a0 < (wrap64 (a1 + a2))
  · rw [if_pos c4] at H
    have c4b0 : decide (a0 < (wrap64 (a1 + a2))) = true := decide_eq_true c4
    clear c4
    by_cases c5 : a1 < (wrap64 (a0 + a2))
    · rw [if_pos c5] at H
      have c5b0 : decide (a1 < (wrap64 (a0 + a2))) = true := decide_eq_true c5
      clear c5
      obtain rfl := Option.some.inj H
      go_enter Try.func33, Try.ntmps33
      go_wp2
      go_ret
      exact ⟨by first | rfl | (simp; done) | (simp [*]; done) | (simp [i64_w]; done) | (simp [*, i64_w]; done) | (simp [Esame.out]; done) | (simp [*, Esame.out]; done), by repeat (first | exact Drawn0.refl _ | apply Drawn0.step)⟩
    · rw [if_neg c5] at H
      have c5b0 : decide (a1 < (wrap64 (a0 + a2))) = false := decide_eq_false c5
      clear c5
      obtain rfl := Option.some.inj H
      go_enter Try.func33, Try.ntmps33
      go_wp2
      go_ret
      exact ⟨by first | rfl | (simp; done) | (simp [*]; done) | (simp [i64_w]; done) | (simp [*, i64_w]; done) | (simp [Esame.out]; done) | (simp [*, Esame.out]; done), by repeat (first | exact Drawn0.refl _ | apply Drawn0.step)⟩
  · rw [if_neg c4] at H
    have c4b0 : decide (a0 < (wrap64 (a1 + a2))) = false := decide_eq_false c4
    clear c4
    obtain rfl := Option.some.inj H
    go_enter Try.func33, Try.ntmps33
    go_wp2
    go_ret
    exact ⟨by first | rfl | (simp; done) | (simp [*]; done) | (simp [i64_w]; done) | (simp [*, i64_w]; done) | (simp [Esame.out]; done) | (simp [*, Esame.out]; done), by repeat (first | exact Drawn0.refl _ | apply Drawn0.step)⟩

/-! ### spec_l2All: function 23 -/
mutual
def spec_l2All.l0 : Nat → Int → List (List Int) → Int → Option ((List (List Int)))
  | 0, _, _, _ => none
  | k + 1, x0, x3, x4 => if x4 ≤ x0 then (spec_l2All.l1 k x0 x3 x4 x4) else (some x3)
def spec_l2All.l1 : Nat → Int → List (List Int) → Int → Int → Option ((List (List Int)))
  | 0, _, _, _, _ => none
  | k + 1, x0, x3, x4, x5 => if (wrap64 (x4 + x5)) ≤ x0 then (if (wrap64 ((wrap64 (x0 - x4)) - x5)) ≥ x5 then ((spec_l1Three.f x4 x5 (wrap64 ((wrap64 (x0 - x4)) - x5))).bind fun t138 => (if t138 = true then (if x3.length < 5864062014805 then (spec_l2All.l1 k x0 (x3 ++ [(([x4, x5, wrap64 ((wrap64 (x0 - x4)) - x5)] : List Int))]) x4 (wrap64 (x5 + 1))) else (none)) else (spec_l2All.l1 k x0 x3 x4 (wrap64 (x5 + 1))))) else (spec_l2All.l1 k x0 x3 x4 (wrap64 (x5 + 1)))) else (spec_l2All.l0 k x0 x3 (wrap64 (x4 + 1)))
end
def spec_l2All.f (k : Nat) (a0 : Int) : Option ((List (List Int))) := spec_l2All.l0 k a0 (([] : List (List Int))) 1
theorem spec_l2All.mono_l : ∀ k, (∀ y0 y1 y2, LeO (spec_l2All.l0 k y0 y1 y2) (spec_l2All.l0 (k + 1) y0 y1 y2)) ∧ (∀ y0 y1 y2 y3, LeO (spec_l2All.l1 k y0 y1 y2 y3) (spec_l2All.l1 (k + 1) y0 y1 y2 y3))
  | 0 => ⟨fun _ _ _ r h => by simp [spec_l2All.l0] at h, fun _ _ _ _ r h => by simp [spec_l2All.l1] at h⟩
  | k + 1 => by
    obtain ⟨ih0, ih1⟩ := spec_l2All.mono_l k
    refine ⟨?_, ?_⟩
    · intro y0 y1 y2
      unfold spec_l2All.l0
      repeat' first
      | (with_reducible exact ih0 _ _ _)
      | (with_reducible exact ih1 _ _ _ _)
      | (with_reducible exact LeO.refl _)
      | (with_reducible exact LeO.none _)
      | (with_reducible refine LeO.ite ?_ ?_)
      | (with_reducible refine LeO.bind ?_ (fun _ => ?_))
      | exact ih0 _ _ _
      | exact ih1 _ _ _ _
      | exact LeO.none _
      | refine LeO.ite ?_ ?_
      | refine LeO.bind ?_ (fun _ => ?_)
    · intro y0 y1 y2 y3
      unfold spec_l2All.l1
      repeat' first
      | (with_reducible exact ih0 _ _ _)
      | (with_reducible exact ih1 _ _ _ _)
      | (with_reducible exact LeO.refl _)
      | (with_reducible exact LeO.none _)
      | (with_reducible refine LeO.ite ?_ ?_)
      | (with_reducible refine LeO.bind ?_ (fun _ => ?_))
      | exact ih0 _ _ _
      | exact ih1 _ _ _ _
      | exact LeO.none _
      | refine LeO.ite ?_ ?_
      | refine LeO.bind ?_ (fun _ => ?_)
theorem spec_l2All.mono : ∀ a0 k, LeO (spec_l2All.f k a0) (spec_l2All.f (k + 1) a0) := by
  intro a0 k
  obtain ⟨ih0, ih1⟩ := spec_l2All.mono_l k
  unfold spec_l2All.f
  repeat' first
      | (with_reducible exact ih0 _ _ _)
      | (with_reducible exact ih1 _ _ _ _)
      | (with_reducible exact LeO.refl _)
      | (with_reducible exact LeO.none _)
      | (with_reducible refine LeO.ite ?_ ?_)
      | (with_reducible refine LeO.bind ?_ (fun _ => ?_))
      | exact ih0 _ _ _
      | exact ih1 _ _ _ _
      | exact LeO.none _
      | refine LeO.ite ?_ ?_
      | refine LeO.bind ?_ (fun _ => ?_)
set_option maxHeartbeats 8000000 in
set_option maxRecDepth 100000 in
theorem spec_l2All.calls (k : Nat) (a0 : Int) (r : List (List Int)) (w : World) (h : spec_l2All.f k a0 = some r) :
    Calls Try.prog 23 #[.int .i64 a0] w fun e w' => ∃ v0_ : Value, e = .returned (v0_) ∧ Kd.S (Kd.slice 3 (Kd.int .i64)) 28 w' w.heap.size (fun _ => True) v0_ r ∧ Below w.heap.size w w' := by
  have HB := Aside0.mk (Below.refl w.heap.size w)
  have H : (spec_l2All.l0 k a0 (([] : List (List Int))) 1) = some r := h
  clear h
  obtain ⟨y135, hy135⟩ : ∃ y_ : List (List Int), y_ = (([] : List (List Int))) := ⟨_, rfl⟩
  replace H : (spec_l2All.l0 k a0 y135 1) = some r := by first | (rw [hy135]; with_reducible exact H) | (have H2_ := (Option.bind_some _ _).symm.trans H; rw [hy135]; with_reducible exact H2_) | (have H2_ := (Option.bind_some _ _).symm.trans H; with_reducible exact H2_) | with_reducible exact H | (rw [hy135]; exact H) | exact H
  have Ny135 := Aside0.mk hy135
  clear hy135
  have H' := Aside0.mk H
  clear H
  go_enter Try.func23, Try.ntmps23
  go_wp2_with (first | ((with_reducible refine gate_dst (N := 7) rfl ?_); refine Kd.S_lit (Kd.slice 3 (Kd.int .i64)) _ 28 ?hg (N := 7) ?hd (xs := ([] : List (List Int))) (inner := []) (ok := fun _ => True) (okp := fun _ => True) ?hr ?hp (fun _ hk => hk) trivial (Below.refl _ _) (Nat.le_refl _) (by simp) ?_; (case hd => rfl); (case hg => rfl); (case hr => first | (go_simp; done) | (go_simp; rfl)); (case hp => exact (Reps.none _ _)); intro v136 w2 ho3 hb hg_ hnew_; clear hg_ hnew_; (first | rw [← Ny135.out] at ho3 | (simp only [Int.reduceToNat] at ho3; rw [← Ny135.out] at ho3)); have n0_ := Aside0.mk (Kd.S_lower ho3 (below_size (by repeat (first | (with_reducible first | exact HB.out | apply below_alloc | apply pw_below_drewN | apply below_drew1) | exact HB.out)))); have n1_ := Aside0.mk (below_step (by repeat (first | (with_reducible first | exact HB.out | apply below_alloc | apply pw_below_drewN | apply below_drew1) | exact HB.out)) hb); clear HB; have HO137 := n0_; have HB := n1_; clear n0_ n1_; clear hb ho3))
  go_loopg [3, 4] k (fun kq v3 v4 w' => ∃ (x3_1 : List (List Int)) (x4_1 : Int), v4 = .int .i64 x4_1 ∧ Aside0 (spec_l2All.l0 kq a0 x3_1 x4_1 = some r) ∧ Aside0 (kq ≤ k) ∧ Aside0 (Kd.S (Kd.slice 3 (Kd.int .i64)) 28 w' w.heap.size (fun _ => True) v3 x3_1) ∧ Aside0 (Below w.heap.size w w'))
  case atStart => exact ⟨(y135), (1), (by first | rfl | (simp; done) | (simp [*]; done) | (simp [i64_w]; done) | (simp [*, i64_w]; done)), H', ⟨Nat.le_refl _⟩, ⟨by (with_reducible repeat (first | apply Kd.S_alloc | apply Kd.S_drewN | apply Kd.S_drew)); exact HO137.out⟩, ⟨by repeat (first | (with_reducible first | exact HB.out | apply below_alloc | apply pw_below_drewN | apply below_drew1) | exact HB.out)⟩⟩
  case round =>
    clear H'
    try clear c2
    try clear p2
    obtain ⟨x3_1, x4_1, rfl, HA, HK1, HO_3, HB⟩ := hrel
    cases gk with
    | zero => exact absurd HA.out (by simp [spec_l2All.l0])
    | succ k1 =>
      have H := HA.out
      clear HA
      simp only [spec_l2All.l0] at H
      by_cases c4 : x4_1 ≤ a0
      · rw [if_pos c4] at H
        have c4b0 : decide (x4_1 ≤ a0) = true := decide_eq_true c4
        clear c4
        have H' := Aside0.mk H
        clear H
        go_wp2
        go_loopg [3, 5] k1 (fun kq v3 v5 w' => ∃ (x3_2 : List (List Int)) (x5_2 : Int), v5 = .int .i64 x5_2 ∧ Aside0 (spec_l2All.l1 kq a0 x3_2 x4_1 x5_2 = some r) ∧ Aside0 (kq ≤ k1) ∧ Aside0 (Kd.S (Kd.slice 3 (Kd.int .i64)) 28 w' w.heap.size (fun _ => True) v3 x3_2) ∧ Aside0 (Below w.heap.size w w'))
        case atStart => exact ⟨(x3_1), (x4_1), (by first | rfl | (simp; done) | (simp [*]; done) | (simp [i64_w]; done) | (simp [*, i64_w]; done)), H', ⟨Nat.le_refl _⟩, ⟨by (with_reducible repeat (first | apply Kd.S_alloc | apply Kd.S_drewN | apply Kd.S_drew)); exact HO_3.out⟩, ⟨by repeat (first | (with_reducible first | exact HB.out | apply below_alloc | apply pw_below_drewN | apply below_drew1) | exact HB.out)⟩⟩
        case round =>
          clear H'
          try clear c2
          try clear p2
          try clear c4
          try clear c4b0
          try clear p2
          obtain ⟨x3_2, x5_2, rfl, HA, HK2, HO_3, HB⟩ := hrel
          cases gk with
          | zero => exact absurd HA.out (by simp [spec_l2All.l1])
          | succ k2 =>
            have H := HA.out
            clear HA
            simp only [spec_l2All.l1] at H
            by_cases c5 : (wrap64 (x4_1 + x5_2)) ≤ a0
            · rw [if_pos c5] at H
              have c5b0 : decide ((wrap64 (x4_1 + x5_2)) ≤ a0) = true := decide_eq_true c5
              clear c5
              by_cases c6 : (wrap64 ((wrap64 (a0 - x4_1)) - x5_2)) ≥ x5_2
              · rw [if_pos c6] at H
                have c6b0 : decide (x5_2 ≤ (wrap64 ((wrap64 (a0 - x4_1)) - x5_2))) = true := decide_eq_true c6
                clear c6
                replace H := Option.bind_eq_some_iff.mp H
                obtain ⟨t138, A70, H⟩ := H
                replace H : (if t138 = true then (if x3_2.length < 5864062014805 then (spec_l2All.l1 k2 a0 (x3_2 ++ [(([x4_1, x5_2, wrap64 ((wrap64 (a0 - x4_1)) - x5_2)] : List Int))]) x4_1 (wrap64 (x5_2 + 1))) else (none)) else (spec_l2All.l1 k2 a0 x3_2 x4_1 (wrap64 (x5_2 + 1)))) = some r := H
                have A7 := Aside0.mk A70
                clear A70
                by_cases c8 : t138 = true
                · subst c8
                  have H1 : (if x3_2.length < 5864062014805 then (spec_l2All.l1 k2 a0 (x3_2 ++ [(([x4_1, x5_2, wrap64 ((wrap64 (a0 - x4_1)) - x5_2)] : List Int))]) x4_1 (wrap64 (x5_2 + 1))) else (none)) = some r := by rw [if_pos rfl] at H; exact H
                  clear H
                  have H := H1
                  clear H1
                  obtain ⟨y139, hy139⟩ : ∃ y_ : List Int, y_ = (([x4_1, x5_2, wrap64 ((wrap64 (a0 - x4_1)) - x5_2)] : List Int)) := ⟨_, rfl⟩
                  replace H : (if x3_2.length < 5864062014805 then (spec_l2All.l1 k2 a0 (x3_2 ++ [y139]) x4_1 (wrap64 (x5_2 + 1))) else (none)) = some r := by first | (rw [hy139]; with_reducible exact H) | (have H2_ := (Option.bind_some _ _).symm.trans H; rw [hy139]; with_reducible exact H2_) | (have H2_ := (Option.bind_some _ _).symm.trans H; with_reducible exact H2_) | with_reducible exact H | (rw [hy139]; exact H) | exact H
                  have Ny139 := Aside0.mk hy139
                  clear hy139
                  by_cases c9 : x3_2.length < 5864062014805
                  · rw [if_pos c9] at H
                    have LMc9 := Aside0.mk c9
                    clear c9
                    obtain ⟨y142, hy142⟩ : ∃ y_ : List (List Int), y_ = (x3_2 ++ [y139]) := ⟨_, rfl⟩
                    replace H : (spec_l2All.l1 k2 a0 y142 x4_1 (wrap64 (x5_2 + 1))) = some r := by first | (rw [hy142]; with_reducible exact H) | (have H2_ := (Option.bind_some _ _).symm.trans H; rw [hy142]; with_reducible exact H2_) | (have H2_ := (Option.bind_some _ _).symm.trans H; with_reducible exact H2_) | with_reducible exact H | (rw [hy142]; exact H) | exact H
                    have Ny142 := Aside0.mk hy142
                    clear hy142
                    have H' := Aside0.mk H
                    clear H
                    go_wp2_with (first | (go_at_call 33; (with_reducible refine (spec_l1Three.calls x4_1 x5_2 (wrap64 ((wrap64 (a0 - x4_1)) - x5_2)) true _ A7.out).mono ?_); rintro e w' ⟨rfl, ⟨nd, rfl⟩⟩) | ((with_reducible refine gate_dst (N := 39) rfl ?_); refine Kd.R_lit (Kd.int .i64) _ 3 ?hg (N := 39) ?hd (xs := ([x4_1, x5_2, wrap64 ((wrap64 (a0 - x4_1)) - x5_2)] : List Int)) (inner := [.int .i64 x4_1, .int .i64 x5_2, .int .i64 (wrap64 ((wrap64 (a0 - x4_1)) - x5_2))]) (ok := fun _ => True) (okp := fun _ => True) ?hr ?hp (fun _ hk => hk) trivial (Below.refl _ _) (Nat.le_refl _) (by simp) ?_; (case hd => rfl); (case hg => rfl); (case hr => first | (go_simp; done) | (go_simp; rfl)); (case hp => exact (Reps.one (show Kd.M (Kd.int .i64) _ _ _ x4_1 [.int .i64 x4_1] from rfl) (Reps.one (show Kd.M (Kd.int .i64) _ _ _ x5_2 [.int .i64 x5_2] from rfl) (Reps.one (show Kd.M (Kd.int .i64) _ _ _ (wrap64 ((wrap64 (a0 - x4_1)) - x5_2)) [.int .i64 (wrap64 ((wrap64 (a0 - x4_1)) - x5_2))] from rfl) (Reps.none _ _))))); intro v140 w10 ho11 hb hg_ hnew_; clear hg_ hnew_; (first | rw [← Ny139.out] at ho11 | (simp only [Int.reduceToNat] at ho11; rw [← Ny139.out] at ho11)); have n0_ := Aside0.mk (Kd.S_elder' (by (with_reducible repeat (first | apply Kd.S_alloc | apply Kd.S_drewN | apply Kd.S_drew)); exact HO_3.out) (Kd.R_base ho11) hb); have n1_ := Aside0.mk (Kd.R_lower ho11 (below_size (by repeat (first | (with_reducible first | exact HB.out | apply below_alloc | apply pw_below_drewN | apply below_drew1) | exact HB.out)))); have n2_ := Aside0.mk (below_step (by repeat (first | (with_reducible first | exact HB.out | apply below_alloc | apply pw_below_drewN | apply below_drew1) | exact HB.out)) hb); clear HO_3; clear HB; have HO_3 := n0_; have HO141 := n1_; have HB := n2_; clear n0_ n1_ n2_; clear hb ho11; obtain ⟨Ao13, co13, eo13⟩ := Kd.R_slice HO141.out; subst eo13) | ((with_reducible refine gate_builtin (b := .append) (xs := #[.tmp 35, .tmp 40]) rfl ?_); at_builtin; refine Kd.S_append (Kd.slice 3 (Kd.int .i64)) (w0 := w) w.heap.size rfl (.tmp 35) (.tmp 40) 24 28 (.slice none 0 0) 24 rfl Try.underlying24 info28 rfl (by decide) (by omega) u3 x3_2 y139 [.slice Ao13 y139.length co13] (fun _ => True) (fun k_ => some k_ = (.slice Ao13 y139.length co13 : Value).ownBlock) rfl rfl ?aP (fun k_ hk_ => ((Kd.R_mono (ok' := fun k_ => ((fun _ => True)) k_ ∧ some k_ ≠ (u3 : Value).ownBlock) (Kd.R_apart' (HO141.out) (Kd.S_typed HO_3.out) (by decide)) (fun k_ hk => ⟨trivial, hk.2⟩))).1 k_ hk_.symm) ?aF ?aO ?aB ?aS ?aL ?_; (case aP => exact Kd.M_row (Kd.R_mono (Kd.R_tight rfl (Kd.R_mono (ok' := fun k_ => ((fun _ => True)) k_ ∧ some k_ ≠ (u3 : Value).ownBlock) (Kd.R_apart' (HO141.out) (Kd.S_typed HO_3.out) (by decide)) (fun k_ hk => ⟨trivial, hk.2⟩))) (fun _ h_ => h_))); (case aB => exact (by repeat (first | (with_reducible first | exact HB.out | apply below_alloc | apply pw_below_drewN | apply below_drew1) | exact HB.out))); (case aF => exact (fun _ _ => trivial)); (case aO => exact (by (with_reducible repeat (first | apply Kd.S_alloc | apply Kd.S_drewN | apply Kd.S_drew)); exact Kd.S_mono HO_3.out (fun k_ hk => ⟨trivial, fun e_ => hk.2 e_⟩))); (case aS => exact (below_size (by repeat (first | (with_reducible first | exact HB.out | apply below_alloc | apply pw_below_drewN | apply below_drew1) | exact HB.out)))); (case aL => have := LMc9.out; omega); intro v143 w12 ho hb hg hat; rw [← Ny142.out] at ho; have n0_ := Aside0.mk (hb); have n1_ := Aside0.mk (ho); clear HB; clear HO_3; clear HO141; have HB := n0_; have HO144 := n1_; clear n0_ n1_; clear ho hb hg hat))
                    go_roundg k2
                    case measure => have := HK1.out; have := HK2.out; omega
                    case rel => exact ⟨(y142), (wrap64 (x5_2 + 1)), (by first | rfl | (simp; done) | (simp [*]; done) | (simp [i64_w]; done) | (simp [*, i64_w]; done)), H', ⟨by have := HK1.out; have := HK2.out; omega⟩, ⟨by (with_reducible repeat (first | apply Kd.S_alloc | apply Kd.S_drewN | apply Kd.S_drew)); exact HO144.out⟩, ⟨by repeat (first | (with_reducible first | exact HB.out | apply below_alloc | apply pw_below_drewN | apply below_drew1) | exact HB.out)⟩⟩
                  · rw [if_neg c9] at H
                    exact absurd H (by simp)
                · replace c8 := Bool.eq_false_iff.mpr c8
                  subst c8
                  have H1 : (spec_l2All.l1 k2 a0 x3_2 x4_1 (wrap64 (x5_2 + 1))) = some r := by rw [if_neg (show ¬ (false = true) by decide)] at H; exact H
                  clear H
                  have H := H1
                  clear H1
                  have H' := Aside0.mk H
                  clear H
                  go_wp2_with (first | (go_at_call 33; (with_reducible refine (spec_l1Three.calls x4_1 x5_2 (wrap64 ((wrap64 (a0 - x4_1)) - x5_2)) false _ A7.out).mono ?_); rintro e w' ⟨rfl, ⟨nd, rfl⟩⟩))
                  go_roundg k2
                  case measure => have := HK1.out; have := HK2.out; omega
                  case rel => exact ⟨(x3_2), (wrap64 (x5_2 + 1)), (by first | rfl | (simp; done) | (simp [*]; done) | (simp [i64_w]; done) | (simp [*, i64_w]; done)), H', ⟨by have := HK1.out; have := HK2.out; omega⟩, ⟨by (with_reducible repeat (first | apply Kd.S_alloc | apply Kd.S_drewN | apply Kd.S_drew)); exact HO_3.out⟩, ⟨by repeat (first | (with_reducible first | exact HB.out | apply below_alloc | apply pw_below_drewN | apply below_drew1) | exact HB.out)⟩⟩
              · rw [if_neg c6] at H
                have c6b0 : decide (x5_2 ≤ (wrap64 ((wrap64 (a0 - x4_1)) - x5_2))) = false := decide_eq_false c6
                clear c6
                have H' := Aside0.mk H
                clear H
                go_wp2
                go_roundg k2
                case measure => have := HK1.out; have := HK2.out; omega
                case rel => exact ⟨(x3_2), (wrap64 (x5_2 + 1)), (by first | rfl | (simp; done) | (simp [*]; done) | (simp [i64_w]; done) | (simp [*, i64_w]; done)), H', ⟨by have := HK1.out; have := HK2.out; omega⟩, ⟨by (with_reducible repeat (first | apply Kd.S_alloc | apply Kd.S_drewN | apply Kd.S_drew)); exact HO_3.out⟩, ⟨by repeat (first | (with_reducible first | exact HB.out | apply below_alloc | apply pw_below_drewN | apply below_drew1) | exact HB.out)⟩⟩
            · rw [if_neg c5] at H
              have c5b0 : decide ((wrap64 (x4_1 + x5_2)) ≤ a0) = false := decide_eq_false c5
              clear c5
              have H' := Aside0.mk H
              clear H
              go_wp2
              go_roundg k2
              case measure => have := HK1.out; have := HK2.out; omega
              case rel => exact ⟨(x3_2), (wrap64 (x4_1 + 1)), (by first | rfl | (simp; done) | (simp [*]; done) | (simp [i64_w]; done) | (simp [*, i64_w]; done)), H', ⟨by have := HK1.out; have := HK2.out; omega⟩, ⟨by (with_reducible repeat (first | apply Kd.S_alloc | apply Kd.S_drewN | apply Kd.S_drew)); exact HO_3.out⟩, ⟨by repeat (first | (with_reducible first | exact HB.out | apply below_alloc | apply pw_below_drewN | apply below_drew1) | exact HB.out)⟩⟩
      · rw [if_neg c4] at H
        have c4b0 : decide (x4_1 ≤ a0) = false := decide_eq_false c4
        clear c4
        obtain rfl := Option.some.inj H
        go_wp2
        go_ret
        exact ⟨_, by first | rfl | (simp [errW_none, errW_some] <;> rfl) | (simp [*, errW_none, errW_some] <;> rfl) | (simp [i64_w]; done) | (simp [*, i64_w]; done), by (with_reducible repeat (first | apply Kd.S_alloc | apply Kd.S_drewN | apply Kd.S_drew)); exact HO_3.out, by repeat (first | (with_reducible first | exact HB.out | apply below_alloc | apply pw_below_drewN | apply below_drew1) | exact HB.out)⟩

/-! ### spec_l2Area: function 30 -/
def spec_l2Area.f (a0 : Int) (a1 : Int) (a2 : Int) : Option (Int) := some (wrap64 ((wrap64 ((wrap64 ((wrap64 ((wrap64 (a0 + a1)) + a2)) * (wrap64 ((wrap64 (a0 + a1)) - a2)))) * (wrap64 ((wrap64 (a0 + a2)) - a1)))) * (wrap64 ((wrap64 (a1 + a2)) - a0))))
set_option maxHeartbeats 8000000 in
set_option maxRecDepth 100000 in
theorem spec_l2Area.calls (a0 : Int) (a1 : Int) (a2 : Int) (r : Int) (w : World) (h : spec_l2Area.f a0 a1 a2 = some r) :
    Calls Try.prog 30 #[.int .i64 a0, .int .i64 a1, .int .i64 a2] w fun e w' => e = .returned (.int .i64 r) ∧ Drawn0 w w' := by
  have H : (some (wrap64 ((wrap64 ((wrap64 ((wrap64 ((wrap64 (a0 + a1)) + a2)) * (wrap64 ((wrap64 (a0 + a1)) - a2)))) * (wrap64 ((wrap64 (a0 + a2)) - a1)))) * (wrap64 ((wrap64 (a1 + a2)) - a0))))) = some r := h
  clear h
  obtain rfl := Option.some.inj H
  go_enter Try.func30, Try.ntmps30
  go_wp2
  go_ret
  exact ⟨by first | rfl | (simp; done) | (simp [*]; done) | (simp [i64_w]; done) | (simp [*, i64_w]; done) | (simp [Esame.out]; done) | (simp [*, Esame.out]; done), by repeat (first | exact Drawn0.refl _ | apply Drawn0.step)⟩

/-! ### spec_l2Root: function 31 -/
def spec_l2Root.l0 : Nat → Int → Int → Int → Option (Int)
  | 0, _, _, _ => none
  | k + 1, x0, x3, x4 => if x3 < x4 then (if (wrap64 ((wrap64 (Int.tdiv (wrap64 ((wrap64 (x3 + x4)) + 1)) 2)) * (wrap64 (Int.tdiv (wrap64 ((wrap64 (x3 + x4)) + 1)) 2)))) ≤ x0 then (spec_l2Root.l0 k x0 (wrap64 (Int.tdiv (wrap64 ((wrap64 (x3 + x4)) + 1)) 2)) x4) else (spec_l2Root.l0 k x0 x3 (wrap64 ((wrap64 (Int.tdiv (wrap64 ((wrap64 (x3 + x4)) + 1)) 2)) - 1)))) else (some x3)
def spec_l2Root.f (k : Nat) (a0 : Int) : Option (Int) := spec_l2Root.l0 k a0 0 1000000
theorem spec_l2Root.mono_l : ∀ k, (∀ y0 y1 y2, LeO (spec_l2Root.l0 k y0 y1 y2) (spec_l2Root.l0 (k + 1) y0 y1 y2))
  | 0 => fun _ _ _ r h => by simp [spec_l2Root.l0] at h
  | k + 1 => by
    have ih0 := spec_l2Root.mono_l k
    · intro y0 y1 y2
      unfold spec_l2Root.l0
      repeat' first
      | (with_reducible exact ih0 _ _ _)
      | (with_reducible exact LeO.refl _)
      | (with_reducible exact LeO.none _)
      | (with_reducible refine LeO.ite ?_ ?_)
      | (with_reducible refine LeO.bind ?_ (fun _ => ?_))
      | exact ih0 _ _ _
      | exact LeO.none _
      | refine LeO.ite ?_ ?_
      | refine LeO.bind ?_ (fun _ => ?_)
theorem spec_l2Root.mono : ∀ a0 k, LeO (spec_l2Root.f k a0) (spec_l2Root.f (k + 1) a0) := by
  intro a0 k
  have ih0 := spec_l2Root.mono_l k
  unfold spec_l2Root.f
  repeat' first
      | (with_reducible exact ih0 _ _ _)
      | (with_reducible exact LeO.refl _)
      | (with_reducible exact LeO.none _)
      | (with_reducible refine LeO.ite ?_ ?_)
      | (with_reducible refine LeO.bind ?_ (fun _ => ?_))
      | exact ih0 _ _ _
      | exact LeO.none _
      | refine LeO.ite ?_ ?_
      | refine LeO.bind ?_ (fun _ => ?_)
set_option maxHeartbeats 8000000 in
set_option maxRecDepth 100000 in
theorem spec_l2Root.calls (k : Nat) (a0 : Int) (r : Int) (w : World) (h : spec_l2Root.f k a0 = some r) :
    Calls Try.prog 31 #[.int .i64 a0] w fun e w' => e = .returned (.int .i64 r) ∧ Drawn0 w w' := by
  have H : (spec_l2Root.l0 k a0 0 1000000) = some r := h
  clear h
  have H' := Aside0.mk H
  clear H
  go_enter Try.func31, Try.ntmps31
  go_wp2
  go_loopg [3, 4] k (fun kq v3 v4 w' => ∃ (x3_1 : Int) (x4_1 : Int), v3 = .int .i64 x3_1 ∧ v4 = .int .i64 x4_1 ∧ Aside0 (spec_l2Root.l0 kq a0 x3_1 x4_1 = some r) ∧ Aside0 (kq ≤ k) ∧ Drawn0 w w')
  case atStart => exact ⟨(0), (1000000), (by first | rfl | (simp; done) | (simp [*]; done) | (simp [i64_w]; done) | (simp [*, i64_w]; done)), (by first | rfl | (simp; done) | (simp [*]; done) | (simp [i64_w]; done) | (simp [*, i64_w]; done)), H', ⟨Nat.le_refl _⟩, by repeat (first | exact Drawn0.refl _ | apply Drawn0.step)⟩
  case round =>
    clear H'
    obtain ⟨x3_1, x4_1, rfl, rfl, HA, HK1, ⟨m1, rfl⟩⟩ := hrel
    cases gk with
    | zero => exact absurd HA.out (by simp [spec_l2Root.l0])
    | succ k1 =>
      have H := HA.out
      clear HA
      simp only [spec_l2Root.l0] at H
      by_cases c2 : x3_1 < x4_1
      · rw [if_pos c2] at H
        have c2b0 : decide (x3_1 < x4_1) = true := decide_eq_true c2
        clear c2
        by_cases c3 : (wrap64 ((wrap64 (Int.tdiv (wrap64 ((wrap64 (x3_1 + x4_1)) + 1)) 2)) * (wrap64 (Int.tdiv (wrap64 ((wrap64 (x3_1 + x4_1)) + 1)) 2)))) ≤ a0
        · rw [if_pos c3] at H
          have c3b0 : decide ((wrap64 ((wrap64 (Int.tdiv (wrap64 ((wrap64 (x3_1 + x4_1)) + 1)) 2)) * (wrap64 (Int.tdiv (wrap64 ((wrap64 (x3_1 + x4_1)) + 1)) 2)))) ≤ a0) = true := decide_eq_true c3
          clear c3
          have H' := Aside0.mk H
          clear H
          go_wp2
          go_roundg k1
          case measure => have := HK1.out; omega
          case rel => exact ⟨(wrap64 (Int.tdiv (wrap64 ((wrap64 (x3_1 + x4_1)) + 1)) 2)), (x4_1), (by first | rfl | (simp; done) | (simp [*]; done) | (simp [i64_w]; done) | (simp [*, i64_w]; done)), (by first | rfl | (simp; done) | (simp [*]; done) | (simp [i64_w]; done) | (simp [*, i64_w]; done)), H', ⟨by have := HK1.out; omega⟩, by repeat (first | exact Drawn0.refl _ | apply Drawn0.step)⟩
        · rw [if_neg c3] at H
          have c3b0 : decide ((wrap64 ((wrap64 (Int.tdiv (wrap64 ((wrap64 (x3_1 + x4_1)) + 1)) 2)) * (wrap64 (Int.tdiv (wrap64 ((wrap64 (x3_1 + x4_1)) + 1)) 2)))) ≤ a0) = false := decide_eq_false c3
          clear c3
          have H' := Aside0.mk H
          clear H
          go_wp2
          go_roundg k1
          case measure => have := HK1.out; omega
          case rel => exact ⟨(x3_1), (wrap64 ((wrap64 (Int.tdiv (wrap64 ((wrap64 (x3_1 + x4_1)) + 1)) 2)) - 1)), (by first | rfl | (simp; done) | (simp [*]; done) | (simp [i64_w]; done) | (simp [*, i64_w]; done)), (by first | rfl | (simp; done) | (simp [*]; done) | (simp [i64_w]; done) | (simp [*, i64_w]; done)), H', ⟨by have := HK1.out; omega⟩, by repeat (first | exact Drawn0.refl _ | apply Drawn0.step)⟩
      · rw [if_neg c2] at H
        have c2b0 : decide (x3_1 < x4_1) = false := decide_eq_false c2
        clear c2
        obtain rfl := Option.some.inj H
        go_wp2
        go_ret
        exact ⟨by first | rfl | (simp; done) | (simp [*]; done) | (simp [i64_w]; done) | (simp [*, i64_w]; done) | (simp [Esame.out]; done) | (simp [*, Esame.out]; done), by repeat (first | exact Drawn0.refl _ | apply Drawn0.step)⟩

end Go.Proofs.Ytagdncgnkkibhaa.QFnExactTriWhole
