-- Written by a program of this session (wip/myprint.py, over the kit's print) for the law FnTryFree.
import Derived.Test.YtbcacnofgmcdcaaQFnTryFreex0
import Derived.Test.YtbcacnofgmcdcaaQFnTryFreex3
namespace Go.Proofs.Ytbcacnofgmcdcaa.QFnTryFree
open Go.RowKit Go.Proofs.YtbcacnofgmcdcaaW.PrintWords Go.Proofs.YtbcacnofgmcdcaaW.PrintLast Go.Proofs.YtbcacnofgmcdcaaW.PrintMore
attribute [local go_sem] max2_int min2_int max_two min_two max_three min_three max_four min_four   -- for this text's walks alone
set_option linter.unusedVariables false
set_option linter.unusedSimpArgs false

/-! ### impl_StickTryFree: function 33 -/
def slices_Clone_int_int.ren : Go.Shelf.Ren := ⟨fun | 15 => 55 | n => n, fun | 22 => 29 | 3 => 3 | 4 => 4 | n => n, fun | n => n⟩
theorem slices_Clone_int_int.lays : Go.Proofs.Lays2.n15 Try.prog slices_Clone_int_int.ren := {
  mixed := by kernel_rfl
  f15 := Try.func55.trans (congrArg some (by kernel_rfl))
  t3 := Try.underlying3
  a3 := Try.isAgg3
  z3 := Try.sizeOf3
  v3 := Try.zeroValue3
  t4 := Try.underlying4
  a4 := Try.isAgg4
  z4 := Try.sizeOf4
  v4 := Try.zeroValue4
  t22 := Try.underlying29
  a22 := Try.isAgg29
  z22 := Try.sizeOf29
  v22 := Try.zeroValue29
  i3 := by kernel_rfl }
theorem slices_Clone_int_int.some_ (b off n c : Nat) (zs : List Int) (w : World) (hz : n ≤ zs.length) (hbig : n * 8 ≤ 140737488355328) (hc : ∀ j, j < zs.length → w.cell? ⟨b, off + j, none⟩ = some (.int .i64 (zs.getD j 0))) :
    Calls Try.prog 55 #[.slice (some ⟨b, off, none⟩) n c] w fun e w' => ∃ v', e = .returned v' ∧ w'.ownsRow w.heap.size 3 1 v' n ((zs.take n).map (Value.int .i64)) ∧ v' ≠ .slice none 0 0 ∧ Below w.heap.size w w' := Any.slices_Clone_int slices_Clone_int_int.lays b off n c zs w hz hbig hc
theorem slices_Clone_int_int.nil_ (n c : Nat) (w : World) :
    Calls Try.prog 55 #[.slice none n c] w fun e w' => e = .returned (.slice none 0 0) ∧ w' = w := Any.slices_Clone_int_nil slices_Clone_int_int.lays n c w
theorem slices_Clone_int_int.zero_ (a : Addr) (c : Nat) (w : World) :
    Calls Try.prog 55 #[.slice (some a) 0 c] w fun e w' => ∃ v', e = .returned v' ∧ w'.ownsRow w.heap.size 3 1 v' 0 [] ∧ v' ≠ .slice none 0 0 ∧ Below w.heap.size w w' := Any.slices_Clone_int_zero slices_Clone_int_int.lays a c w
def slices_Clone_int_int.f (l0 : List Int) : Option (List Int) := if l0.length ≤ 17592186044416 then some l0 else none
theorem slices_Clone_int_int.calls (A0 : Option Addr) (c0 : Nat) (l0 : List Int) (r : List Int) (w : World) (hr0 : Kd.C (Kd.int .i64) w A0 l0.length l0) (hc0 : l0.length ≤ c0) (h : slices_Clone_int_int.f l0 = some r) :
    Calls Try.prog 55 #[.slice A0 l0.length c0] w fun e w' => ∃ v0_ : Value, e = .returned (v0_) ∧ Kd.R (Kd.int .i64) 3 w' w.heap.size (fun _ => True) v0_ r ∧ Below w.heap.size w w' := by
  unfold slices_Clone_int_int.f at h
  by_cases hl : l0.length ≤ 17592186044416
  · rw [if_pos hl] at h
    obtain rfl := Option.some.inj h
    by_cases h0 : l0.length = 0
    · obtain rfl : l0 = [] := List.eq_nil_of_length_eq_zero h0
      cases A0 with
      | none =>
        refine (slices_Clone_int_int.nil_ _ c0 w).mono ?_
        rintro e w' ⟨rfl, rfl⟩
        exact ⟨_, rfl, Kd.R_nil _ _ _ _ _, Below.refl _ _⟩
      | some a =>
        refine (slices_Clone_int_int.zero_ a c0 w).mono ?_
        rintro e w' ⟨v, rfl, ho, _, hb⟩
        exact ⟨_, rfl, Kd.R_of_own (h1 := fun _ => rfl) (ok := fun _ => True) ho (fun _ _ => trivial), hb⟩
    · obtain ⟨ad, rfl, c⟩ := Kd.at_int hr0 0 (by omega) (by omega)
      obtain ⟨b, off, spot⟩ := ad
      have hspot : spot = none := by
        have := World.cell?_spot c
        simpa [Addr.add] using this
      subst hspot
      refine (slices_Clone_int_int.some_ b off l0.length c0 l0 w (Nat.le_refl _) (by omega) ?_).mono ?_
      · intro j hj
        obtain ⟨ad2, e2, c2⟩ := Kd.at_int hr0 (j : Int) (by omega) (by omega)
        cases e2
        rw [rd, Int.toNat_natCast] at c2
        rw [← Addr.add_lit]
        exact c2
      · rintro e w' ⟨v, rfl, ho, _, hb⟩
        rw [List.take_length] at ho
        exact ⟨_, rfl, Kd.R_of_own (h1 := fun _ => rfl) (ok := fun _ => True) ho (fun _ _ => trivial), hb⟩
  · rw [if_neg hl] at h
    cases h
mutual
def impl_StickTryFree.tr : Nat → Int → List Int → Int → Option Int
  | 0, _, _, _ => none
  | k + 1, n, a, m => if 0 < (a.length : Int) then ((impl_StickFree.f k a).bind fun b => (if b = true then (if (a.length : Int) = 9 then some (if m < (a.length : Int) then (a.length : Int) else m) else impl_StickTryFree.lp k n a (rd a ((a.length : Int) - 1)) (if m < (a.length : Int) then (a.length : Int) else m)) else some m)) else impl_StickTryFree.lp k n a 1 (if m < (a.length : Int) then (a.length : Int) else m)
def impl_StickTryFree.lp : Nat → Int → List Int → Int → Int → Option Int
  | 0, _, _, _, _ => none
  | k + 1, n, a, x, m => if x ≤ n then (if a.length < 1000000 then ((impl_StickTryFree.tr k n (a ++ [x]) m).bind fun m2 => impl_StickTryFree.lp k n a (wrap64 (x + 1)) m2) else none) else some m
end
theorem impl_StickTryFree.mono_l : ∀ k, (∀ a b c, LeO (impl_StickTryFree.tr k a b c) (impl_StickTryFree.tr (k + 1) a b c)) ∧ (∀ a b c d, LeO (impl_StickTryFree.lp k a b c d) (impl_StickTryFree.lp (k + 1) a b c d))
  | 0 => ⟨fun _ _ _ r h => by simp [impl_StickTryFree.tr] at h, fun _ _ _ _ r h => by simp [impl_StickTryFree.lp] at h⟩
  | k + 1 => by
    obtain ⟨i0, i1⟩ := impl_StickTryFree.mono_l k
    refine ⟨fun a b c => ?_, fun a b c d => ?_⟩
    · unfold impl_StickTryFree.tr
      exact LeO.ite (LeO.bind (impl_StickFree.mono _ _) (fun _ => LeO.ite (LeO.ite (LeO.refl _) (i1 _ _ _ _)) (LeO.refl _))) (i1 _ _ _ _)
    · unfold impl_StickTryFree.lp
      exact LeO.ite (LeO.ite (LeO.bind (i0 _ _ _) (fun _ => i1 _ _ _ _)) (LeO.none _)) (LeO.refl _)
/-- What is known in a world that has grown since w but for the box of the greatest number. -/
structure impl_StickTryFree.Env (A : Option Addr) (c : Nat) (a : List Int) (n : Int) (Bm Bn Bt : Nat) (w : World) : Prop where
  hC : ∀ W, w.grownBy W (some Bm) → Kd.C (Kd.int .i64) W A a.length a
  hN : ∀ W, w.grownBy W (some Bm) → W.heap[Bn]? = some (.cells #[.int .i64 n] 3 (0, 0))
  hT : ∀ W, w.grownBy W (some Bm) → W.heap[Bt]? = some (.cells #[.func (.func 54) #[] #[.pointer (some ⟨Bm, 0, none⟩), .pointer (some ⟨Bn, 0, none⟩), .pointer (some ⟨Bt, 0, none⟩)]] 50 (0, 0))
  hc : a.length ≤ c
  hb : Bm < w.heap.size
def impl_StickTryFree.Says (k : Nat) (n : Int) (a : List Int) (m r : Int) (A : Option Addr) (c Bm Bn Bt : Nat) (w : World) : Prop :=
  impl_StickTryFree.Env A c a n Bm Bn Bt w → w.heap[Bm]? = some (.cells #[.int .i64 m] 3 (0, 0)) → impl_StickTryFree.tr k n a m = some r →
    Calls Try.prog 54 #[.slice A a.length c, .pointer (some ⟨Bm, 0, none⟩), .pointer (some ⟨Bn, 0, none⟩), .pointer (some ⟨Bt, 0, none⟩)] w fun e w' => e = .returned (.tuple #[]) ∧ w.grownBy w' (some Bm) ∧ w'.heap[Bm]? = some (.cells #[.int .i64 r] 3 (0, 0))
theorem impl_StickTryFree.grown_of {w W : World} {row : Option Nat} (h : Below w.heap.size w W) : w.grownBy W row := ⟨h.os, h.tape, h.output, h.size, fun i hi _ => h.block i hi⟩
theorem impl_StickTryFree.newC (W : World) (x : Int) : Kd.C (Kd.int .i64) (W.alloc (.cells #[.int .i64 x] 3 (0, 0))) (some ⟨W.heap.size, 0, none⟩) 1 [x] := by
  refine Kd.C_of_reads (d := 0) ⟨rfl, by decide, fun _ => ⟨⟨W.heap.size, 0, none⟩, rfl, fun j hj => ?_⟩⟩
  obtain rfl : j = 0 := by omega
  rw [add_plain]
  have hb := blk_new W (.cells #[.int .i64 x] 3 (0, 0)) rfl
  unfold World.cell?
  rw [hb]
  rfl
set_option maxHeartbeats 4000000 in
set_option maxRecDepth 100000 in
theorem impl_StickTryFree.clo_zero (k1 : Nat) (ih : ∀ k', k' < k1 + 1 → ∀ n a m r A c Bm Bn Bt w, impl_StickTryFree.Says k' n a m r A c Bm Bn Bt w) (n : Int) (a : List Int) (m r : Int) (A : Option Addr) (c Bm Bn Bt : Nat) (w : World)
    (hE : impl_StickTryFree.Env A c a n Bm Bn Bt w) (hM : w.heap[Bm]? = some (.cells #[.int .i64 m] 3 (0, 0))) (j : Int) (hj : (if m < (a.length : Int) then (a.length : Int) else m) = j) (hp : ¬ 0 < (a.length : Int)) (hl : impl_StickTryFree.lp k1 n a 1 j = some r) :
    Calls Try.prog 54 #[.slice A a.length c, .pointer (some ⟨Bm, 0, none⟩), .pointer (some ⟨Bn, 0, none⟩), .pointer (some ⟨Bt, 0, none⟩)] w fun e w' => e = .returned (.tuple #[]) ∧ w.grownBy w' (some Bm) ∧ w'.heap[Bm]? = some (.cells #[.int .i64 r] 3 (0, 0)) := by
  have HE := Aside0.mk hE
  have IH := Aside0.mk ih
  have HL := Aside0.mk hl
  have p1 : decide (0 < (a.length : Int)) = false := decide_eq_false hp
  have p9 : ((a.length : Int) == 9) = false := beq_eq_false_iff_ne.mpr (by omega)
  have HM1 := Aside0.mk hM
  have HG1 := Aside0.mk (gb_refl w (some Bm))
  obtain ⟨w1, hw1⟩ : ∃ w1 : World, w1 = w := ⟨_, rfl⟩
  have cM := cell_of_one hM
  have fM := free_of_one hM
  clear hE ih hl hM
  go_enter Try.func54, Try.ntmps54
  go_wp2
  go_loopg [6] k1 (fun kq v6 w' => ∃ (x m : Int), v6 = .int .i64 x ∧ Aside0 (impl_StickTryFree.lp kq n a x m = some r) ∧ Aside0 (kq ≤ k1) ∧ Aside0 (w.grownBy w' (some Bm)) ∧ Aside0 (w'.heap[Bm]? = some (.cells #[.int .i64 m] 3 (0, 0))))
  case atStart => exact ⟨_, _, (by first | rfl | (simp; done)), HL, ⟨Nat.le_refl _⟩, ⟨gb_setCell HG1.out _⟩, ⟨one_set HM1.out⟩⟩
  case round =>
    clear HL
    obtain ⟨x, m, rfl, HH, HK1, HG2, HM2⟩ := hrel
    obtain ⟨w2, rfl⟩ : ∃ w2 : World, w2 = wr := ⟨_, rfl⟩
    cases gk with
    | zero => exact absurd HH.out (by simp [impl_StickTryFree.lp])
    | succ k2 =>
      have H := HH.out
      clear HH
      simp only [impl_StickTryFree.lp] at H
      have cN := cell_of_one (HE.out.hN w2 HG2.out)
      by_cases c1 : x ≤ n
      · rw [if_pos c1] at H
        have c1b : decide (x ≤ n) = true := decide_eq_true c1
        clear c1
        by_cases c2 : a.length < 1000000
        · rw [if_pos c2] at H
          obtain ⟨m2, hm2, H⟩ := Option.bind_eq_some_iff.mp H
          have Hm2 := Aside0.mk hm2
          have H' := Aside0.mk H
          have HC2 := Aside0.mk c2
          have cT := cell_of_one (HE.out.hT w2 HG2.out)
          clear H hm2 c2
          go_wp2
          have hlen : (a ++ [x]).length = a.length + 1 := by simp
          refine start_ (n := 7) (S := fun w' => w'.cell? ⟨Bt, 0, none⟩ = some (.func (.func 54) #[] #[.pointer (some ⟨Bm, 0, none⟩), .pointer (some ⟨Bn, 0, none⟩), .pointer (some ⟨Bt, 0, none⟩)])) (ds := []) #[false, false, false, false, false, false, false] (by kernel_rfl) rfl rfl cT (fun hHeld => ?_)
          refine pure_ (i := 1) (N := some 38) (v := ?_) (a' := ?_) #[false, true, false, false, false, false, false] rfl rfl (by kernel_rfl) (fun _ _ _ h => h) (Or.inl ⟨by rfl, ?_⟩) ?_ ?_
          rotate_left
          · intro w'
            go_simp
            with_reducible rfl
          rotate_left
          · simp only [Act.put, List.setIfInBounds_toArray, List.set_cons_zero, List.set_cons_succ, i64_w, i32_w]
            rfl
          refine pure_ (i := 3) (N := some 40) (v := ?_) (a' := ?_) #[false, true, false, true, false, false, false] rfl rfl (by kernel_rfl) (fun _ _ _ h => h) (Or.inl ⟨by rfl, ?_⟩) ?_ ?_
          rotate_left
          · intro w'
            go_simp
            with_reducible rfl
          rotate_left
          · simp only [Act.put, List.setIfInBounds_toArray, List.set_cons_zero, List.set_cons_succ, i64_w, i32_w]
            rfl
          refine take_ (i := 0) (N := some 37) (v := ?_) (a' := ?_) #[true, true, false, true, false, false, false] rfl rfl (by kernel_rfl) (fun _ _ _ h => h) (Or.inl ⟨by rfl, ?_⟩) hHeld ?_ ?_
          rotate_left
          · intro w' s0
            go_simp
            with_reducible rfl
          rotate_left
          · simp only [Act.put, List.setIfInBounds_toArray, List.set_cons_zero, List.set_cons_succ, i64_w, i32_w]
            rfl
          refine two_ (i := 2) (j := 4) (Ni := some 39) (Nj := some 41) #[true, true, true, true, false, false, false] #[true, true, false, true, true, false, false] rfl rfl rfl rfl (by kernel_rfl) (by decide) (by decide) (fun K hK => ?_) (fun K hK => ?_)
          · refine goes_ Try.func55 (by kernel_rfl) rfl #[.slice A a.length c] (by rfl) rfl rfl (by (try simp only [List.map_toArray, List.map_cons, List.map_nil]); first | done | rfl) ?_
            refine (slices_Clone_int_int.calls A c a a _ ?s1 ?s2 ?s3).mono ?_
            (case s1 => repeat (first | exact HE.out.hC _ HG2.out | (with_reducible refine Kd.C_alloc ?_ _) | (with_reducible refine Kd.C_drew ?_)))
            (case s2 => exact HE.out.hc)
            (case s3 => exact if_pos (by have := HC2.out; omega))
            rintro e w3 ⟨v, rfl, ho, hb⟩
            refine ⟨_, rfl, ?_⟩
            have HB3 := Aside0.mk (below_step (show Below w2.heap.size w2 _ by repeat (first | exact Below.refl _ _ | apply below_alloc | apply below_drew1)) hb)
            have HO3 := Aside0.mk (Kd.R_lower ho (show Below w2.heap.size w2 _ by repeat (first | exact Below.refl _ _ | apply below_alloc | apply below_drew1)).size)
            clear ho hb
            refine hK.out _ _ (pw_cell_below HB3.out cT) (fun hHeld => ?_)
            clear hK K
            refine norm_ (a' := ?_) ?_ ?_
            rotate_left
            · show Act.put _ (some 39) _ = _
              simp only [Act.put, List.setIfInBounds_toArray, List.set_cons_zero, List.set_cons_succ, i64_w, i32_w]
              rfl
            refine one_ (i := 4) (N := some 41) #[true, true, true, true, true, false, false] rfl rfl (by kernel_rfl) (by decide) (fun K hK => ?_)
            refine value_ (w1 := ?_) (v := ?_) (by rfl) rfl ?_ ?_
            rotate_left 2
            · go_simp
              constructor
              · rfl
              · rfl
            refine hK.out _ _ (pw_cell_below (below_alloc (Below.refl _ _) _) (pw_cell_below (Below.refl _ _) (pw_cell_below HB3.out cT))) (fun hHeld => ?_)
            clear hK K
            refine norm_ (a' := ?_) ?_ ?_
            rotate_left
            · show Act.put _ (some 41) _ = _
              simp only [Act.put, List.setIfInBounds_toArray, List.set_cons_zero, List.set_cons_succ, i64_w, i32_w]
              rfl
            refine one_ (i := 5) (N := some 42) #[true, true, true, true, true, true, false] rfl rfl (by kernel_rfl) (by decide) (fun K hK => ?_)
            refine Kd.R_append_rows_step (Kd.int .i64) (w0 := w2) w2.heap.size (by rfl) (.tmp 39) (.tmp 41) 29 3 (.int .i64 0) 8 rfl Try.underlying29 info3 rfl (by decide) (by omega) v a [x] _ _ _ (fun _ => True) (fun _ => False) rfl rfl ?aO ?aR (fun _ _ h => h) (fun _ h => h.elim) ?aF ?aB ?aS ?aL ?_
            (case aR => exact (impl_StickTryFree.newC w3 x))
            (case aF => exact (fun _ _ => trivial))
            (case aO => exact (Kd.R_alloc HO3.out _))
            (case aB => exact (below_alloc HB3.out _))
            (case aS => exact (below_size (below_alloc HB3.out _)))
            (case aL => have := HC2.out; simp; omega)
            intro v1 w4 ho hb hg hat
            clear hg hat
            have HO4 := Aside0.mk ho
            have HB4 := Aside0.mk hb
            obtain ⟨A1, c1_, eo1⟩ := Kd.R_slice HO4.out
            subst eo1
            clear ho hb
            refine hK.out _ _ (pw_cell_below HB4.out cT) (fun hHeld => ?_)
            clear hK K
            refine norm_ (a' := ?_) ?_ ?_
            rotate_left
            · show Act.put _ (some 42) _ = _
              simp only [Act.put, List.setIfInBounds_toArray, List.set_cons_zero, List.set_cons_succ, i64_w, i32_w]
              rfl
            refine one_ (i := 6) (N := some 43) #[true, true, true, true, true, true, true] rfl rfl (by kernel_rfl) (by decide) (fun K hK => ?_)
            have hlt2 : Bm < w2.heap.size := Nat.lt_of_lt_of_le HE.out.hb HG2.out.size
            have HG4 := Aside0.mk (gb_trans HG2.out (impl_StickTryFree.grown_of (row := some Bm) HB4.out))
            have ENV := Aside0.mk (show impl_StickTryFree.Env A1 c1_ (a ++ [x]) n Bm Bn Bt w4 from ⟨fun W hW => (Kd.R_reads' (Kd.R_grown1 HO4.out rfl hW (fun e => by have := Kd.R_base HO4.out Bm e.symm; omega))).2.2, fun W hW => HE.out.hN W (gb_trans HG4.out hW), fun W hW => HE.out.hT W (gb_trans HG4.out hW), (Kd.R_reads' HO4.out).2.1, Nat.lt_of_lt_of_le hlt2 HB4.out.size⟩)
            have cl := Aside0.mk (IH.out k2 (by have := HK1.out; omega) n (a ++ [x]) m m2 A1 c1_ Bm Bn Bt w4 ENV.out ((HB4.out.block Bm hlt2).trans HM2.out) Hm2.out)
            refine call_ 54 #[.slice A1 (a ++ [x]).length c1_, .pointer (some ⟨Bm, 0, none⟩), .pointer (some ⟨Bn, 0, none⟩), .pointer (some ⟨Bt, 0, none⟩)] (by rfl) rfl ?hrun ?_
            (case hrun => have he := enters_ Try.func54 (by kernel_rfl) rfl #[.slice A1 (a ++ [x]).length c1_, .pointer (some ⟨Bm, 0, none⟩), .pointer (some ⟨Bn, 0, none⟩), .pointer (some ⟨Bt, 0, none⟩)] w4; simp [execOp, resolve, Deferred.ofValue, invoke, Act.eval, he] at he ⊢; try exact he)
            refine cl.out.mono ?_
            rintro e w5 ⟨rfl, hg5, hn5⟩
            refine ⟨_, rfl, ?_⟩
            have HG5 := Aside0.mk (gb_trans HG4.out hg5)
            have HM5 := Aside0.mk hn5
            clear hg5 hn5 cl ENV
            refine hK.out _ _ (cell_of_one (HE.out.hT w5 HG5.out)) (fun hHeld => ?_)
            clear hK K
            refine norm_ (a' := ?_) ?_ ?_
            rotate_left
            · show Act.put _ (some 43) _ = _
              simp only [Act.put, List.setIfInBounds_toArray, List.set_cons_zero, List.set_cons_succ, i64_w, i32_w]
              rfl
            refine done_ (by kernel_rfl) ?_
            clear hHeld
            go_wp2
            go_roundg k2
            case measure => have := HK1.out; omega
            case rel => exact ⟨_, _, (by first | rfl | (simp; done)), H', ⟨by have := HK1.out; omega⟩, HG5, HM5⟩
          · refine value_ (w1 := ?_) (v := ?_) (by rfl) rfl ?_ ?_
            rotate_left 2
            · go_simp
              constructor
              · rfl
              · rfl
            refine hK.out _ _ (pw_cell_below (below_alloc (Below.refl _ _) _) (pw_cell_below (Below.refl _ _) cT)) (fun hHeld => ?_)
            clear hK K
            refine norm_ (a' := ?_) ?_ ?_
            rotate_left
            · show Act.put _ (some 41) _ = _
              simp only [Act.put, List.setIfInBounds_toArray, List.set_cons_zero, List.set_cons_succ, i64_w, i32_w]
              rfl
            refine one_ (i := 2) (N := some 39) #[true, true, true, true, true, false, false] rfl rfl (by kernel_rfl) (by decide) (fun K hK => ?_)
            refine goes_ Try.func55 (by kernel_rfl) rfl #[.slice A a.length c] (by rfl) rfl rfl (by (try simp only [List.map_toArray, List.map_cons, List.map_nil]); first | done | rfl) ?_
            refine (slices_Clone_int_int.calls A c a a _ ?s1 ?s2 ?s3).mono ?_
            (case s1 => repeat (first | exact HE.out.hC _ HG2.out | (with_reducible refine Kd.C_alloc ?_ _) | (with_reducible refine Kd.C_drew ?_)))
            (case s2 => exact HE.out.hc)
            (case s3 => exact if_pos (by have := HC2.out; omega))
            rintro e w3 ⟨v, rfl, ho, hb⟩
            refine ⟨_, rfl, ?_⟩
            have HB3 := Aside0.mk (below_step (show Below w2.heap.size w2 _ by repeat (first | exact Below.refl _ _ | apply below_alloc | apply below_drew1)) hb)
            have HO3 := Aside0.mk (Kd.R_lower ho (show Below w2.heap.size w2 _ by repeat (first | exact Below.refl _ _ | apply below_alloc | apply below_drew1)).size)
            have HX3 := Aside0.mk (Kd.C_below (impl_StickTryFree.newC w2.drew x) hb)
            clear ho hb
            refine hK.out _ _ (pw_cell_below HB3.out cT) (fun hHeld => ?_)
            clear hK K
            refine norm_ (a' := ?_) ?_ ?_
            rotate_left
            · show Act.put _ (some 39) _ = _
              simp only [Act.put, List.setIfInBounds_toArray, List.set_cons_zero, List.set_cons_succ, i64_w, i32_w]
              rfl
            refine one_ (i := 5) (N := some 42) #[true, true, true, true, true, true, false] rfl rfl (by kernel_rfl) (by decide) (fun K hK => ?_)
            refine Kd.R_append_rows_step (Kd.int .i64) (w0 := w2) w2.heap.size (by rfl) (.tmp 39) (.tmp 41) 29 3 (.int .i64 0) 8 rfl Try.underlying29 info3 rfl (by decide) (by omega) v a [x] _ _ _ (fun _ => True) (fun _ => False) rfl rfl ?aO ?aR (fun _ _ h => h) (fun _ h => h.elim) ?aF ?aB ?aS ?aL ?_
            (case aR => exact HX3.out)
            (case aF => exact (fun _ _ => trivial))
            (case aO => exact HO3.out)
            (case aB => exact HB3.out)
            (case aS => exact (below_size HB3.out))
            (case aL => have := HC2.out; simp; omega)
            intro v1 w4 ho hb hg hat
            clear hg hat
            have HO4 := Aside0.mk ho
            have HB4 := Aside0.mk hb
            obtain ⟨A1, c1_, eo1⟩ := Kd.R_slice HO4.out
            subst eo1
            clear ho hb
            refine hK.out _ _ (pw_cell_below HB4.out cT) (fun hHeld => ?_)
            clear hK K
            refine norm_ (a' := ?_) ?_ ?_
            rotate_left
            · show Act.put _ (some 42) _ = _
              simp only [Act.put, List.setIfInBounds_toArray, List.set_cons_zero, List.set_cons_succ, i64_w, i32_w]
              rfl
            refine one_ (i := 6) (N := some 43) #[true, true, true, true, true, true, true] rfl rfl (by kernel_rfl) (by decide) (fun K hK => ?_)
            have hlt2 : Bm < w2.heap.size := Nat.lt_of_lt_of_le HE.out.hb HG2.out.size
            have HG4 := Aside0.mk (gb_trans HG2.out (impl_StickTryFree.grown_of (row := some Bm) HB4.out))
            have ENV := Aside0.mk (show impl_StickTryFree.Env A1 c1_ (a ++ [x]) n Bm Bn Bt w4 from ⟨fun W hW => (Kd.R_reads' (Kd.R_grown1 HO4.out rfl hW (fun e => by have := Kd.R_base HO4.out Bm e.symm; omega))).2.2, fun W hW => HE.out.hN W (gb_trans HG4.out hW), fun W hW => HE.out.hT W (gb_trans HG4.out hW), (Kd.R_reads' HO4.out).2.1, Nat.lt_of_lt_of_le hlt2 HB4.out.size⟩)
            have cl := Aside0.mk (IH.out k2 (by have := HK1.out; omega) n (a ++ [x]) m m2 A1 c1_ Bm Bn Bt w4 ENV.out ((HB4.out.block Bm hlt2).trans HM2.out) Hm2.out)
            refine call_ 54 #[.slice A1 (a ++ [x]).length c1_, .pointer (some ⟨Bm, 0, none⟩), .pointer (some ⟨Bn, 0, none⟩), .pointer (some ⟨Bt, 0, none⟩)] (by rfl) rfl ?hrun ?_
            (case hrun => have he := enters_ Try.func54 (by kernel_rfl) rfl #[.slice A1 (a ++ [x]).length c1_, .pointer (some ⟨Bm, 0, none⟩), .pointer (some ⟨Bn, 0, none⟩), .pointer (some ⟨Bt, 0, none⟩)] w4; simp [execOp, resolve, Deferred.ofValue, invoke, Act.eval, he] at he ⊢; try exact he)
            refine cl.out.mono ?_
            rintro e w5 ⟨rfl, hg5, hn5⟩
            refine ⟨_, rfl, ?_⟩
            have HG5 := Aside0.mk (gb_trans HG4.out hg5)
            have HM5 := Aside0.mk hn5
            clear hg5 hn5 cl ENV
            refine hK.out _ _ (cell_of_one (HE.out.hT w5 HG5.out)) (fun hHeld => ?_)
            clear hK K
            refine norm_ (a' := ?_) ?_ ?_
            rotate_left
            · show Act.put _ (some 43) _ = _
              simp only [Act.put, List.setIfInBounds_toArray, List.set_cons_zero, List.set_cons_succ, i64_w, i32_w]
              rfl
            refine done_ (by kernel_rfl) ?_
            clear hHeld
            go_wp2
            go_roundg k2
            case measure => have := HK1.out; omega
            case rel => exact ⟨_, _, (by first | rfl | (simp; done)), H', ⟨by have := HK1.out; omega⟩, HG5, HM5⟩
        · rw [if_neg c2] at H
          exact absurd H (by simp)
      · rw [if_neg c1] at H
        have c1b : decide (x ≤ n) = false := decide_eq_false c1
        clear c1
        obtain rfl := Option.some.inj H
        go_wp2
        go_end0
        exact ⟨rfl, HG2.out, HM2.out⟩
set_option maxHeartbeats 4000000 in
set_option maxRecDepth 100000 in
theorem impl_StickTryFree.clo_pos (k1 : Nat) (ih : ∀ k', k' < k1 + 1 → ∀ n a m r A c Bm Bn Bt w, impl_StickTryFree.Says k' n a m r A c Bm Bn Bt w) (n : Int) (a : List Int) (m r : Int) (A : Option Addr) (c Bm Bn Bt : Nat) (w : World)
    (hE : impl_StickTryFree.Env A c a n Bm Bn Bt w) (hM : w.heap[Bm]? = some (.cells #[.int .i64 m] 3 (0, 0))) (j : Int) (hj : (if m < (a.length : Int) then (a.length : Int) else m) = j) (hp : 0 < (a.length : Int)) (h9 : (a.length : Int) ≠ 9) (hF : impl_StickFree.f k1 a = some true) (hl : impl_StickTryFree.lp k1 n a (rd a ((a.length : Int) - 1)) j = some r) :
    Calls Try.prog 54 #[.slice A a.length c, .pointer (some ⟨Bm, 0, none⟩), .pointer (some ⟨Bn, 0, none⟩), .pointer (some ⟨Bt, 0, none⟩)] w fun e w' => e = .returned (.tuple #[]) ∧ w.grownBy w' (some Bm) ∧ w'.heap[Bm]? = some (.cells #[.int .i64 r] 3 (0, 0)) := by
  have HE := Aside0.mk hE
  have IH := Aside0.mk ih
  have HL := Aside0.mk hl
  have hmx := (hE.hC w (gb_refl _ _)).2.1
  have p1 : decide (0 < (a.length : Int)) = true := decide_eq_true hp
  have p9 : ((a.length : Int) == 9) = false := beq_eq_false_iff_ne.mpr h9
  have HF := Aside0.mk hF
  have HM := Aside0.mk hM
  have hw1 : IntKind.i64.wrap ((a.length : Int) - 1) = (a.length : Int) - 1 := by rw [i64_w]; unfold wrap64; omega
  have hw2 : wrap64 ((a.length : Int) - 1) = (a.length : Int) - 1 := by unfold wrap64; omega
  have b0 : (0 ≤ (a.length : Int) - 1) = True := eq_true (by omega)
  have b1 : ((a.length : Int) - 1 < (a.length : Int)) = True := eq_true (by omega)
  obtain ⟨ad, eA, _⟩ := Kd.at_int (hE.hC w (gb_refl _ _)) ((a.length : Int) - 1) (by omega) (by omega)
  subst eA
  clear hE ih hl hM hF
  go_enter Try.func54, Try.ntmps54
  go_wp2_with (go_at_call 27; refine (impl_StickFree.calls k1 (some ad) c a true _ ?s1 ?s2 HF.out).mono ?_; (case s1 => exact HE.out.hC _ (gb_refl _ _)); (case s2 => exact HE.out.hc); rintro e w1 ⟨rfl, hb1⟩; have HG1 := Aside0.mk (impl_StickTryFree.grown_of (row := some Bm) hb1); have HM1 := Aside0.mk ((hb1.block Bm (gb_lt HM.out)).trans HM.out); have cM := cell_of_one HM1.out; have fM := free_of_one HM1.out; have cA : (w1.setCell ⟨Bm, 0, none⟩ (.int .i64 j)).cell? (ad.add (a.length - 1)) = some (.int .i64 (rd a ((a.length : Int) - 1))) := (by obtain ⟨ad2, e2, c2⟩ := Kd.at_int (HE.out.hC _ (gb_setCell HG1.out (.int .i64 j))) ((a.length : Int) - 1) (by omega) (by omega); cases e2; rw [show ((a.length : Int) - 1).toNat = a.length - 1 by omega] at c2; exact c2); clear hb1)
  go_loopg [6] k1 (fun kq v6 w' => ∃ (x m : Int), v6 = .int .i64 x ∧ Aside0 (impl_StickTryFree.lp kq n a x m = some r) ∧ Aside0 (kq ≤ k1) ∧ Aside0 (w.grownBy w' (some Bm)) ∧ Aside0 (w'.heap[Bm]? = some (.cells #[.int .i64 m] 3 (0, 0))))
  case atStart => exact ⟨_, _, (by first | rfl | (simp; done)), HL, ⟨Nat.le_refl _⟩, ⟨gb_setCell HG1.out _⟩, ⟨one_set HM1.out⟩⟩
  case round =>
    clear HL
    obtain ⟨x, m, rfl, HH, HK1, HG2, HM2⟩ := hrel
    obtain ⟨w2, rfl⟩ : ∃ w2 : World, w2 = wr := ⟨_, rfl⟩
    cases gk with
    | zero => exact absurd HH.out (by simp [impl_StickTryFree.lp])
    | succ k2 =>
      have H := HH.out
      clear HH
      simp only [impl_StickTryFree.lp] at H
      have cN := cell_of_one (HE.out.hN w2 HG2.out)
      by_cases c1 : x ≤ n
      · rw [if_pos c1] at H
        have c1b : decide (x ≤ n) = true := decide_eq_true c1
        clear c1
        by_cases c2 : a.length < 1000000
        · rw [if_pos c2] at H
          obtain ⟨m2, hm2, H⟩ := Option.bind_eq_some_iff.mp H
          have Hm2 := Aside0.mk hm2
          have H' := Aside0.mk H
          have HC2 := Aside0.mk c2
          have cT := cell_of_one (HE.out.hT w2 HG2.out)
          clear H hm2 c2
          go_wp2
          have hlen : (a ++ [x]).length = a.length + 1 := by simp
          refine start_ (n := 7) (S := fun w' => w'.cell? ⟨Bt, 0, none⟩ = some (.func (.func 54) #[] #[.pointer (some ⟨Bm, 0, none⟩), .pointer (some ⟨Bn, 0, none⟩), .pointer (some ⟨Bt, 0, none⟩)])) (ds := []) #[false, false, false, false, false, false, false] (by kernel_rfl) rfl rfl cT (fun hHeld => ?_)
          refine pure_ (i := 1) (N := some 38) (v := ?_) (a' := ?_) #[false, true, false, false, false, false, false] rfl rfl (by kernel_rfl) (fun _ _ _ h => h) (Or.inl ⟨by rfl, ?_⟩) ?_ ?_
          rotate_left
          · intro w'
            go_simp
            with_reducible rfl
          rotate_left
          · simp only [Act.put, List.setIfInBounds_toArray, List.set_cons_zero, List.set_cons_succ, i64_w, i32_w]
            rfl
          refine pure_ (i := 3) (N := some 40) (v := ?_) (a' := ?_) #[false, true, false, true, false, false, false] rfl rfl (by kernel_rfl) (fun _ _ _ h => h) (Or.inl ⟨by rfl, ?_⟩) ?_ ?_
          rotate_left
          · intro w'
            go_simp
            with_reducible rfl
          rotate_left
          · simp only [Act.put, List.setIfInBounds_toArray, List.set_cons_zero, List.set_cons_succ, i64_w, i32_w]
            rfl
          refine take_ (i := 0) (N := some 37) (v := ?_) (a' := ?_) #[true, true, false, true, false, false, false] rfl rfl (by kernel_rfl) (fun _ _ _ h => h) (Or.inl ⟨by rfl, ?_⟩) hHeld ?_ ?_
          rotate_left
          · intro w' s0
            go_simp
            with_reducible rfl
          rotate_left
          · simp only [Act.put, List.setIfInBounds_toArray, List.set_cons_zero, List.set_cons_succ, i64_w, i32_w]
            rfl
          refine two_ (i := 2) (j := 4) (Ni := some 39) (Nj := some 41) #[true, true, true, true, false, false, false] #[true, true, false, true, true, false, false] rfl rfl rfl rfl (by kernel_rfl) (by decide) (by decide) (fun K hK => ?_) (fun K hK => ?_)
          · refine goes_ Try.func55 (by kernel_rfl) rfl #[.slice (some ad) a.length c] (by rfl) rfl rfl (by (try simp only [List.map_toArray, List.map_cons, List.map_nil]); first | done | rfl) ?_
            refine (slices_Clone_int_int.calls (some ad) c a a _ ?s1 ?s2 ?s3).mono ?_
            (case s1 => repeat (first | exact HE.out.hC _ HG2.out | (with_reducible refine Kd.C_alloc ?_ _) | (with_reducible refine Kd.C_drew ?_)))
            (case s2 => exact HE.out.hc)
            (case s3 => exact if_pos (by have := HC2.out; omega))
            rintro e w3 ⟨v, rfl, ho, hb⟩
            refine ⟨_, rfl, ?_⟩
            have HB3 := Aside0.mk (below_step (show Below w2.heap.size w2 _ by repeat (first | exact Below.refl _ _ | apply below_alloc | apply below_drew1)) hb)
            have HO3 := Aside0.mk (Kd.R_lower ho (show Below w2.heap.size w2 _ by repeat (first | exact Below.refl _ _ | apply below_alloc | apply below_drew1)).size)
            clear ho hb
            refine hK.out _ _ (pw_cell_below HB3.out cT) (fun hHeld => ?_)
            clear hK K
            refine norm_ (a' := ?_) ?_ ?_
            rotate_left
            · show Act.put _ (some 39) _ = _
              simp only [Act.put, List.setIfInBounds_toArray, List.set_cons_zero, List.set_cons_succ, i64_w, i32_w]
              rfl
            refine one_ (i := 4) (N := some 41) #[true, true, true, true, true, false, false] rfl rfl (by kernel_rfl) (by decide) (fun K hK => ?_)
            refine value_ (w1 := ?_) (v := ?_) (by rfl) rfl ?_ ?_
            rotate_left 2
            · go_simp
              constructor
              · rfl
              · rfl
            refine hK.out _ _ (pw_cell_below (below_alloc (Below.refl _ _) _) (pw_cell_below (Below.refl _ _) (pw_cell_below HB3.out cT))) (fun hHeld => ?_)
            clear hK K
            refine norm_ (a' := ?_) ?_ ?_
            rotate_left
            · show Act.put _ (some 41) _ = _
              simp only [Act.put, List.setIfInBounds_toArray, List.set_cons_zero, List.set_cons_succ, i64_w, i32_w]
              rfl
            refine one_ (i := 5) (N := some 42) #[true, true, true, true, true, true, false] rfl rfl (by kernel_rfl) (by decide) (fun K hK => ?_)
            refine Kd.R_append_rows_step (Kd.int .i64) (w0 := w2) w2.heap.size (by rfl) (.tmp 39) (.tmp 41) 29 3 (.int .i64 0) 8 rfl Try.underlying29 info3 rfl (by decide) (by omega) v a [x] _ _ _ (fun _ => True) (fun _ => False) rfl rfl ?aO ?aR (fun _ _ h => h) (fun _ h => h.elim) ?aF ?aB ?aS ?aL ?_
            (case aR => exact (impl_StickTryFree.newC w3 x))
            (case aF => exact (fun _ _ => trivial))
            (case aO => exact (Kd.R_alloc HO3.out _))
            (case aB => exact (below_alloc HB3.out _))
            (case aS => exact (below_size (below_alloc HB3.out _)))
            (case aL => have := HC2.out; simp; omega)
            intro v1 w4 ho hb hg hat
            clear hg hat
            have HO4 := Aside0.mk ho
            have HB4 := Aside0.mk hb
            obtain ⟨A1, c1_, eo1⟩ := Kd.R_slice HO4.out
            subst eo1
            clear ho hb
            refine hK.out _ _ (pw_cell_below HB4.out cT) (fun hHeld => ?_)
            clear hK K
            refine norm_ (a' := ?_) ?_ ?_
            rotate_left
            · show Act.put _ (some 42) _ = _
              simp only [Act.put, List.setIfInBounds_toArray, List.set_cons_zero, List.set_cons_succ, i64_w, i32_w]
              rfl
            refine one_ (i := 6) (N := some 43) #[true, true, true, true, true, true, true] rfl rfl (by kernel_rfl) (by decide) (fun K hK => ?_)
            have hlt2 : Bm < w2.heap.size := Nat.lt_of_lt_of_le HE.out.hb HG2.out.size
            have HG4 := Aside0.mk (gb_trans HG2.out (impl_StickTryFree.grown_of (row := some Bm) HB4.out))
            have ENV := Aside0.mk (show impl_StickTryFree.Env A1 c1_ (a ++ [x]) n Bm Bn Bt w4 from ⟨fun W hW => (Kd.R_reads' (Kd.R_grown1 HO4.out rfl hW (fun e => by have := Kd.R_base HO4.out Bm e.symm; omega))).2.2, fun W hW => HE.out.hN W (gb_trans HG4.out hW), fun W hW => HE.out.hT W (gb_trans HG4.out hW), (Kd.R_reads' HO4.out).2.1, Nat.lt_of_lt_of_le hlt2 HB4.out.size⟩)
            have cl := Aside0.mk (IH.out k2 (by have := HK1.out; omega) n (a ++ [x]) m m2 A1 c1_ Bm Bn Bt w4 ENV.out ((HB4.out.block Bm hlt2).trans HM2.out) Hm2.out)
            refine call_ 54 #[.slice A1 (a ++ [x]).length c1_, .pointer (some ⟨Bm, 0, none⟩), .pointer (some ⟨Bn, 0, none⟩), .pointer (some ⟨Bt, 0, none⟩)] (by rfl) rfl ?hrun ?_
            (case hrun => have he := enters_ Try.func54 (by kernel_rfl) rfl #[.slice A1 (a ++ [x]).length c1_, .pointer (some ⟨Bm, 0, none⟩), .pointer (some ⟨Bn, 0, none⟩), .pointer (some ⟨Bt, 0, none⟩)] w4; simp [execOp, resolve, Deferred.ofValue, invoke, Act.eval, he] at he ⊢; try exact he)
            refine cl.out.mono ?_
            rintro e w5 ⟨rfl, hg5, hn5⟩
            refine ⟨_, rfl, ?_⟩
            have HG5 := Aside0.mk (gb_trans HG4.out hg5)
            have HM5 := Aside0.mk hn5
            clear hg5 hn5 cl ENV
            refine hK.out _ _ (cell_of_one (HE.out.hT w5 HG5.out)) (fun hHeld => ?_)
            clear hK K
            refine norm_ (a' := ?_) ?_ ?_
            rotate_left
            · show Act.put _ (some 43) _ = _
              simp only [Act.put, List.setIfInBounds_toArray, List.set_cons_zero, List.set_cons_succ, i64_w, i32_w]
              rfl
            refine done_ (by kernel_rfl) ?_
            clear hHeld
            go_wp2
            go_roundg k2
            case measure => have := HK1.out; omega
            case rel => exact ⟨_, _, (by first | rfl | (simp; done)), H', ⟨by have := HK1.out; omega⟩, HG5, HM5⟩
          · refine value_ (w1 := ?_) (v := ?_) (by rfl) rfl ?_ ?_
            rotate_left 2
            · go_simp
              constructor
              · rfl
              · rfl
            refine hK.out _ _ (pw_cell_below (below_alloc (Below.refl _ _) _) (pw_cell_below (Below.refl _ _) cT)) (fun hHeld => ?_)
            clear hK K
            refine norm_ (a' := ?_) ?_ ?_
            rotate_left
            · show Act.put _ (some 41) _ = _
              simp only [Act.put, List.setIfInBounds_toArray, List.set_cons_zero, List.set_cons_succ, i64_w, i32_w]
              rfl
            refine one_ (i := 2) (N := some 39) #[true, true, true, true, true, false, false] rfl rfl (by kernel_rfl) (by decide) (fun K hK => ?_)
            refine goes_ Try.func55 (by kernel_rfl) rfl #[.slice (some ad) a.length c] (by rfl) rfl rfl (by (try simp only [List.map_toArray, List.map_cons, List.map_nil]); first | done | rfl) ?_
            refine (slices_Clone_int_int.calls (some ad) c a a _ ?s1 ?s2 ?s3).mono ?_
            (case s1 => repeat (first | exact HE.out.hC _ HG2.out | (with_reducible refine Kd.C_alloc ?_ _) | (with_reducible refine Kd.C_drew ?_)))
            (case s2 => exact HE.out.hc)
            (case s3 => exact if_pos (by have := HC2.out; omega))
            rintro e w3 ⟨v, rfl, ho, hb⟩
            refine ⟨_, rfl, ?_⟩
            have HB3 := Aside0.mk (below_step (show Below w2.heap.size w2 _ by repeat (first | exact Below.refl _ _ | apply below_alloc | apply below_drew1)) hb)
            have HO3 := Aside0.mk (Kd.R_lower ho (show Below w2.heap.size w2 _ by repeat (first | exact Below.refl _ _ | apply below_alloc | apply below_drew1)).size)
            have HX3 := Aside0.mk (Kd.C_below (impl_StickTryFree.newC w2.drew x) hb)
            clear ho hb
            refine hK.out _ _ (pw_cell_below HB3.out cT) (fun hHeld => ?_)
            clear hK K
            refine norm_ (a' := ?_) ?_ ?_
            rotate_left
            · show Act.put _ (some 39) _ = _
              simp only [Act.put, List.setIfInBounds_toArray, List.set_cons_zero, List.set_cons_succ, i64_w, i32_w]
              rfl
            refine one_ (i := 5) (N := some 42) #[true, true, true, true, true, true, false] rfl rfl (by kernel_rfl) (by decide) (fun K hK => ?_)
            refine Kd.R_append_rows_step (Kd.int .i64) (w0 := w2) w2.heap.size (by rfl) (.tmp 39) (.tmp 41) 29 3 (.int .i64 0) 8 rfl Try.underlying29 info3 rfl (by decide) (by omega) v a [x] _ _ _ (fun _ => True) (fun _ => False) rfl rfl ?aO ?aR (fun _ _ h => h) (fun _ h => h.elim) ?aF ?aB ?aS ?aL ?_
            (case aR => exact HX3.out)
            (case aF => exact (fun _ _ => trivial))
            (case aO => exact HO3.out)
            (case aB => exact HB3.out)
            (case aS => exact (below_size HB3.out))
            (case aL => have := HC2.out; simp; omega)
            intro v1 w4 ho hb hg hat
            clear hg hat
            have HO4 := Aside0.mk ho
            have HB4 := Aside0.mk hb
            obtain ⟨A1, c1_, eo1⟩ := Kd.R_slice HO4.out
            subst eo1
            clear ho hb
            refine hK.out _ _ (pw_cell_below HB4.out cT) (fun hHeld => ?_)
            clear hK K
            refine norm_ (a' := ?_) ?_ ?_
            rotate_left
            · show Act.put _ (some 42) _ = _
              simp only [Act.put, List.setIfInBounds_toArray, List.set_cons_zero, List.set_cons_succ, i64_w, i32_w]
              rfl
            refine one_ (i := 6) (N := some 43) #[true, true, true, true, true, true, true] rfl rfl (by kernel_rfl) (by decide) (fun K hK => ?_)
            have hlt2 : Bm < w2.heap.size := Nat.lt_of_lt_of_le HE.out.hb HG2.out.size
            have HG4 := Aside0.mk (gb_trans HG2.out (impl_StickTryFree.grown_of (row := some Bm) HB4.out))
            have ENV := Aside0.mk (show impl_StickTryFree.Env A1 c1_ (a ++ [x]) n Bm Bn Bt w4 from ⟨fun W hW => (Kd.R_reads' (Kd.R_grown1 HO4.out rfl hW (fun e => by have := Kd.R_base HO4.out Bm e.symm; omega))).2.2, fun W hW => HE.out.hN W (gb_trans HG4.out hW), fun W hW => HE.out.hT W (gb_trans HG4.out hW), (Kd.R_reads' HO4.out).2.1, Nat.lt_of_lt_of_le hlt2 HB4.out.size⟩)
            have cl := Aside0.mk (IH.out k2 (by have := HK1.out; omega) n (a ++ [x]) m m2 A1 c1_ Bm Bn Bt w4 ENV.out ((HB4.out.block Bm hlt2).trans HM2.out) Hm2.out)
            refine call_ 54 #[.slice A1 (a ++ [x]).length c1_, .pointer (some ⟨Bm, 0, none⟩), .pointer (some ⟨Bn, 0, none⟩), .pointer (some ⟨Bt, 0, none⟩)] (by rfl) rfl ?hrun ?_
            (case hrun => have he := enters_ Try.func54 (by kernel_rfl) rfl #[.slice A1 (a ++ [x]).length c1_, .pointer (some ⟨Bm, 0, none⟩), .pointer (some ⟨Bn, 0, none⟩), .pointer (some ⟨Bt, 0, none⟩)] w4; simp [execOp, resolve, Deferred.ofValue, invoke, Act.eval, he] at he ⊢; try exact he)
            refine cl.out.mono ?_
            rintro e w5 ⟨rfl, hg5, hn5⟩
            refine ⟨_, rfl, ?_⟩
            have HG5 := Aside0.mk (gb_trans HG4.out hg5)
            have HM5 := Aside0.mk hn5
            clear hg5 hn5 cl ENV
            refine hK.out _ _ (cell_of_one (HE.out.hT w5 HG5.out)) (fun hHeld => ?_)
            clear hK K
            refine norm_ (a' := ?_) ?_ ?_
            rotate_left
            · show Act.put _ (some 43) _ = _
              simp only [Act.put, List.setIfInBounds_toArray, List.set_cons_zero, List.set_cons_succ, i64_w, i32_w]
              rfl
            refine done_ (by kernel_rfl) ?_
            clear hHeld
            go_wp2
            go_roundg k2
            case measure => have := HK1.out; omega
            case rel => exact ⟨_, _, (by first | rfl | (simp; done)), H', ⟨by have := HK1.out; omega⟩, HG5, HM5⟩
        · rw [if_neg c2] at H
          exact absurd H (by simp)
      · rw [if_neg c1] at H
        have c1b : decide (x ≤ n) = false := decide_eq_false c1
        clear c1
        obtain rfl := Option.some.inj H
        go_wp2
        go_end0
        exact ⟨rfl, HG2.out, HM2.out⟩
set_option maxHeartbeats 4000000 in
set_option maxRecDepth 100000 in
theorem impl_StickTryFree.clo_no (k1 : Nat) (n : Int) (a : List Int) (m : Int) (A : Option Addr) (c Bm Bn Bt : Nat) (w : World)
    (hE : impl_StickTryFree.Env A c a n Bm Bn Bt w) (hM : w.heap[Bm]? = some (.cells #[.int .i64 m] 3 (0, 0))) (hp : 0 < (a.length : Int)) (hF : impl_StickFree.f k1 a = some false) :
    Calls Try.prog 54 #[.slice A a.length c, .pointer (some ⟨Bm, 0, none⟩), .pointer (some ⟨Bn, 0, none⟩), .pointer (some ⟨Bt, 0, none⟩)] w fun e w' => e = .returned (.tuple #[]) ∧ w.grownBy w' (some Bm) ∧ w'.heap[Bm]? = some (.cells #[.int .i64 m] 3 (0, 0)) := by
  have HE := Aside0.mk hE
  have p1 : decide (0 < (a.length : Int)) = true := decide_eq_true hp
  have HF := Aside0.mk hF
  have HM := Aside0.mk hM
  clear hE hM hF
  go_enter Try.func54, Try.ntmps54
  go_wp2_with (go_at_call 27; refine (impl_StickFree.calls k1 A c a false _ ?s1 ?s2 HF.out).mono ?_; (case s1 => exact HE.out.hC _ (gb_refl _ _)); (case s2 => exact HE.out.hc); rintro e w1 ⟨rfl, hb1⟩; have HG1 := Aside0.mk (impl_StickTryFree.grown_of (row := some Bm) hb1); have HM1 := Aside0.mk ((hb1.block Bm (gb_lt HM.out)).trans HM.out); clear hb1)
  (first | go_end0 | ((try simp only [Exit.inBlock, Exit.then]); refine bodyPost_ret (results_none rfl _ _ _) rfl ?_))
  exact ⟨rfl, HG1.out, HM1.out⟩
set_option maxHeartbeats 4000000 in
set_option maxRecDepth 100000 in
theorem impl_StickTryFree.clo_nine (k1 : Nat) (n : Int) (a : List Int) (m : Int) (A : Option Addr) (c Bm Bn Bt : Nat) (w : World)
    (hE : impl_StickTryFree.Env A c a n Bm Bn Bt w) (hM : w.heap[Bm]? = some (.cells #[.int .i64 m] 3 (0, 0))) (j : Int) (hj : (if m < (a.length : Int) then (a.length : Int) else m) = j) (hp : 0 < (a.length : Int)) (h9 : (a.length : Int) = 9) (hF : impl_StickFree.f k1 a = some true) :
    Calls Try.prog 54 #[.slice A a.length c, .pointer (some ⟨Bm, 0, none⟩), .pointer (some ⟨Bn, 0, none⟩), .pointer (some ⟨Bt, 0, none⟩)] w fun e w' => e = .returned (.tuple #[]) ∧ w.grownBy w' (some Bm) ∧ w'.heap[Bm]? = some (.cells #[.int .i64 j] 3 (0, 0)) := by
  have HE := Aside0.mk hE
  have p1 : decide (0 < (a.length : Int)) = true := decide_eq_true hp
  have p9 : ((a.length : Int) == 9) = true := beq_iff_eq.mpr h9
  have HF := Aside0.mk hF
  have HM := Aside0.mk hM
  clear hE hM hF h9
  go_enter Try.func54, Try.ntmps54
  go_wp2_with (go_at_call 27; refine (impl_StickFree.calls k1 A c a true _ ?s1 ?s2 HF.out).mono ?_; (case s1 => exact HE.out.hC _ (gb_refl _ _)); (case s2 => exact HE.out.hc); rintro e w1 ⟨rfl, hb1⟩; have HG1 := Aside0.mk (impl_StickTryFree.grown_of (row := some Bm) hb1); have HM1 := Aside0.mk ((hb1.block Bm (gb_lt HM.out)).trans HM.out); have cM := cell_of_one HM1.out; have fM := free_of_one HM1.out; clear hb1)
  (first | go_end0 | ((try simp only [Exit.inBlock, Exit.then]); refine bodyPost_ret (results_none rfl _ _ _) rfl ?_))
  exact ⟨rfl, gb_setCell HG1.out _, one_set HM1.out⟩
theorem impl_StickTryFree.clo (k : Nat) : ∀ n a m r A c Bm Bn Bt w, impl_StickTryFree.Says k n a m r A c Bm Bn Bt w := by
  induction k using Nat.strongRecOn with
  | _ k ih =>
    intro n a m r A c Bm Bn Bt w hE hM h
    cases k with
    | zero => exact absurd h (by simp [impl_StickTryFree.tr])
    | succ k1 =>
      simp only [impl_StickTryFree.tr] at h
      by_cases hp : 0 < (a.length : Int)
      · rw [if_pos hp] at h
        obtain ⟨b, hF, h⟩ := Option.bind_eq_some_iff.mp h
        cases b with
        | true =>
          rw [if_pos rfl] at h
          by_cases h9 : (a.length : Int) = 9
          · rw [if_pos h9] at h
            exact impl_StickTryFree.clo_nine k1 n a m A c Bm Bn Bt w hE hM r (Option.some.inj h) hp h9 hF
          · rw [if_neg h9] at h
            exact impl_StickTryFree.clo_pos k1 ih n a m r A c Bm Bn Bt w hE hM _ rfl hp h9 hF h
        | false =>
          rw [if_neg (by decide)] at h
          obtain rfl := Option.some.inj h
          exact impl_StickTryFree.clo_no k1 n a m A c Bm Bn Bt w hE hM hp hF
      · rw [if_neg hp] at h
        exact impl_StickTryFree.clo_zero k1 ih n a m r A c Bm Bn Bt w hE hM _ rfl hp h
def impl_StickTryFree.f (k : Nat) (n : Int) : Option (Int × Bool) := if n < 1 then some (0, false) else (if n > 8 then some (0, false) else ((impl_StickTryFree.tr k n [] 0).bind fun m => some (m, true)))
theorem impl_StickTryFree.mono : ∀ a0 k, LeO (impl_StickTryFree.f k a0) (impl_StickTryFree.f (k + 1) a0) := by
  intro a0 k
  unfold impl_StickTryFree.f
  exact LeO.ite (LeO.refl _) (LeO.ite (LeO.refl _) (LeO.bind ((impl_StickTryFree.mono_l k).1 _ _ _) (fun _ => LeO.refl _)))
set_option maxHeartbeats 4000000 in
set_option maxRecDepth 100000 in
theorem impl_StickTryFree.calls (k : Nat) (n : Int) (r1 : Int) (r2 : Bool) (w : World) (h : impl_StickTryFree.f k n = some (r1, r2)) :
    Calls Try.prog 33 #[.int .i64 n] w fun e w' => e = .returned (.tuple #[.int .i64 r1, .bool r2]) ∧ Below w.heap.size w w' := by
  have HB := Aside0.mk (Below.refl w.heap.size w)
  unfold impl_StickTryFree.f at h
  by_cases c1 : n < 1
  · rw [if_pos c1] at h
    simp only [Option.some.injEq, Prod.mk.injEq] at h
    obtain ⟨rfl, rfl⟩ := h
    have c1b := decide_eq_true c1
    go_enter Try.func33, Try.ntmps33
    go_wp2
    go_ret2
    exact ⟨by first | rfl | (simp; done), by repeat (first | exact HB.out | apply below_alloc | apply pw_below_drewN | apply below_drew1)⟩
  · rw [if_neg c1] at h
    have c1b := decide_eq_false c1
    by_cases c2 : n > 8
    · rw [if_pos c2] at h
      simp only [Option.some.injEq, Prod.mk.injEq] at h
      obtain ⟨rfl, rfl⟩ := h
      have c2b := decide_eq_true c2
      go_enter Try.func33, Try.ntmps33
      go_wp2
      go_ret2
      exact ⟨by first | rfl | (simp; done), by repeat (first | exact HB.out | apply below_alloc | apply pw_below_drewN | apply below_drew1)⟩
    · rw [if_neg c2] at h
      have c2b := decide_eq_false c2
      obtain ⟨m, hm, h⟩ := Option.bind_eq_some_iff.mp h
      simp only [Option.some.injEq, Prod.mk.injEq] at h
      obtain ⟨rfl, rfl⟩ := h
      have Hm := Aside0.mk hm
      clear hm
      have W3b := Aside0.mk (show (((w.alloc (.cells #[.int .i64 n] 3 (0, 0))).alloc (.cells #[.int .i64 0] 3 (0, 0))).alloc (.cells #[.nilFunc] 50 (0, 0))).heap[w.heap.size + 1 + 1]? = some (.cells #[.nilFunc] 50 (0, 0)) from blk_new _ _ (by show ((w.heap.push _).push _).size = _; rw [Array.size_push, Array.size_push]))
      have W3c := cell_of_one W3b.out
      have W3f := free_of_one W3b.out
      have W4b := Aside0.mk (one_set (v := .func (.func 54) #[] #[.pointer (some ⟨w.heap.size + 1, 0, none⟩), .pointer (some ⟨w.heap.size, 0, none⟩), .pointer (some ⟨w.heap.size + 1 + 1, 0, none⟩)]) W3b.out)
      have W4c := cell_of_one W4b.out
      obtain ⟨WW, hWW⟩ : ∃ WW : World, WW = (((w.alloc (.cells #[.int .i64 n] 3 (0, 0))).alloc (.cells #[.int .i64 0] 3 (0, 0))).alloc (.cells #[.func (.func 54) #[] #[.pointer (some ⟨w.heap.size + 1, 0, none⟩), .pointer (some ⟨w.heap.size, 0, none⟩), .pointer (some ⟨w.heap.size + 1 + 1, 0, none⟩)]] 50 (0, 0))) := ⟨_, rfl⟩
      have hs : WW.heap.size = w.heap.size + 3 := by rw [hWW]; show (((w.heap.push _).push _).push _).size = _; rw [Array.size_push, Array.size_push, Array.size_push]
      have b1 : WW.heap[w.heap.size]? = some (.cells #[.int .i64 n] 3 (0, 0)) := by rw [hWW]; show (((w.heap.push _).push _).push _)[_]? = _; simp only [Array.getElem?_push, Array.size_push]; rw [if_neg (by omega), if_neg (by omega), if_pos trivial]
      have b2 : WW.heap[w.heap.size + 1]? = some (.cells #[.int .i64 0] 3 (0, 0)) := by rw [hWW]; show (((w.heap.push _).push _).push _)[_]? = _; simp only [Array.getElem?_push, Array.size_push]; rw [if_neg (by omega), if_pos trivial]
      have b3 : WW.heap[w.heap.size + 1 + 1]? = some (.cells #[.func (.func 54) #[] #[.pointer (some ⟨w.heap.size + 1, 0, none⟩), .pointer (some ⟨w.heap.size, 0, none⟩), .pointer (some ⟨w.heap.size + 1 + 1, 0, none⟩)]] 50 (0, 0)) := by rw [hWW]; show (((w.heap.push _).push _).push _)[_]? = _; simp only [Array.getElem?_push, Array.size_push]; rw [if_pos trivial]
      have hBW : Below w.heap.size w WW := by rw [hWW]; repeat (first | exact HB.out | apply below_alloc)
      have ENV : impl_StickTryFree.Env none 0 [] n (w.heap.size + 1) w.heap.size (w.heap.size + 1 + 1) WW :=
        ⟨fun W _ => Kd.C_nil _ W, fun W g => (g.block _ (by omega) (fun e => by injection e with e; omega)).trans b1, fun W g => (g.block _ (by omega) (fun e => by injection e with e; omega)).trans b3, Nat.le_refl _, by omega⟩
      have CL := impl_StickTryFree.clo k n [] 0 m none 0 (w.heap.size + 1) w.heap.size (w.heap.size + 1 + 1) WW ENV b2 Hm.out
      have CL2 := Aside0.mk (CL.mono (R' := fun e w' => e = .returned (.tuple #[]) ∧ Below w.heap.size w w' ∧ w'.heap[w.heap.size + 1]? = some (.cells #[.int .i64 m] 3 (0, 0))) (by
        rintro e w' ⟨he, hg, hn⟩
        exact ⟨he, pw_below_grown hBW _ (by omega) hg (fun k_ e_ => by injection e_ with e_; omega), hn⟩))
      clear CL ENV b1 b2 b3 hs hBW
      subst hWW
      go_enter Try.func33, Try.ntmps33
      go_wp2_with (go_at_call 54; refine CL2.out.mono ?_; rintro e w4 ⟨rfl, hb, hn⟩; have cN := cell_of_one hn; have HB2 := Aside0.mk hb; clear hb hn)
      go_ret2
      exact ⟨by first | rfl | (simp; done), by repeat (first | exact HB2.out | apply below_alloc | apply pw_below_drewN | apply below_drew1)⟩

/-- A state of type 54 at block g of W; what its slices lead to came in by w0. -/
def IsS54 (w0 W : World) (g : Nat) (f0 : List Int) (f1 : Int) : Prop := ∃ A0 c0, W.heap[g]? = some (.cells #[.slice A0 f0.length c0, .int .i64 f1] 54 (0, 0)) ∧ w0.heap.size ≤ g ∧ Kd.C (Kd.int .u8) w0 A0 f0.length f0
theorem IsS54.grown {w0 W : World} {g : Nat} {f0 : List Int} {f1 : Int} {W1 : World} {row : Option Nat} (h : IsS54 w0 W g f0 f1) (hw : W.grownBy W1 row) (hne : some g ≠ row) : IsS54 w0 W1 g f0 f1 := by
  obtain ⟨A0, c0, hb, hg, hr0⟩ := h
  exact ⟨A0, c0, blk_grown hb hw hne, hg, hr0⟩
theorem IsS54.own_neN {w0 W : World} {g : Nat} {f0 : List Int} {f1 : Int} {α : Type} {d : Kd α} {e : Nat} {base : Nat} {ok : Nat → Prop} {v : Value} {xs : List α} (h : IsS54 w0 W g f0 f1) (ho : Kd.N d e W base ok v xs) (ht : e ≠ 54) : some g ≠ v.ownBlock := by
  obtain ⟨A0, c0, hb, hg, hr0⟩ := h
  exact Kd.N_ne ho hb ht
theorem IsS54.fresh {w0 W : World} {g : Nat} {f0 : List Int} {f1 : Int} (h : IsS54 w0 W g f0 f1) : ∀ k, W.heap.size ≤ k → k ≠ g := by
  obtain ⟨A0, c0, hb, hg, hr0⟩ := h
  exact Kd.freshB hb
theorem IsS54.kept {w0 W : World} {g : Nat} {f0 : List Int} {f1 : Int} {W1 : World} {S : Nat → Prop} (h : IsS54 w0 W g f0 f1) (hk : Kept W W1 S) (hne : ¬ S g) : IsS54 w0 W1 g f0 f1 := by
  obtain ⟨A0, c0, hb, hg, hr0⟩ := h
  exact ⟨A0, c0, blk_kept hb hk hne, hg, hr0⟩
theorem IsS54.below {w0 W : World} {g : Nat} {f0 : List Int} {f1 : Int} {W1 : World} (h : IsS54 w0 W g f0 f1) (hw : Below W.heap.size W W1) : IsS54 w0 W1 g f0 f1 := h.grown (grown_of_below hw none) (by simp)
theorem IsS54.alloc {w0 W : World} {g : Nat} {f0 : List Int} {f1 : Int} (h : IsS54 w0 W g f0 f1) (o : Obj) : IsS54 w0 (W.alloc o) g f0 f1 := h.below (below_alloc (Below.refl _ _) o)
theorem IsS54.drewN {w0 W : World} {g : Nat} {f0 : List Int} {f1 : Int} (h : IsS54 w0 W g f0 f1) (m : Nat) : IsS54 w0 (W.drewN m) g f0 f1 := h
theorem IsS54.drew {w0 W : World} {g : Nat} {f0 : List Int} {f1 : Int} (h : IsS54 w0 W g f0 f1) : IsS54 w0 W.drew g f0 f1 := h
theorem IsS54.at_ {w0 W : World} {g : Nat} {f0 : List Int} {f1 : Int} {w' : World} {m : Nat} (hq : W.drewN m = w') (h : IsS54 w0 W g f0 f1) : IsS54 w0 w' g f0 f1 := by subst hq; exact IsS54.drewN h m
theorem IsS54.apart {w0 W : World} {g : Nat} {f0 : List Int} {f1 : Int} {α : Type} {d : Kd α} {e : Nat} {base : Nat} {ok : Nat → Prop} {v : Value} {xs : List α} (h : IsS54 w0 W g f0 f1) (ho : d.R e W base ok v xs) (ht : ∀ q, q ∈ e :: d.E → q ≠ 54) : d.R e W base (fun k => ok k ∧ k ≠ g) v xs := by
  obtain ⟨A0, c0, hb, hg, hr0⟩ := h
  exact Kd.R_types ho hb ht
theorem IsS54.own_ne {w0 W : World} {g : Nat} {f0 : List Int} {f1 : Int} {α : Type} {d : Kd α} {e : Nat} {base : Nat} {ok : Nat → Prop} {v : Value} {xs : List α} (h : IsS54 w0 W g f0 f1) (ho : d.R e W base ok v xs) (ht : e ≠ 54) : some g ≠ v.ownBlock := by
  obtain ⟨A0, c0, hb, hg, hr0⟩ := h
  exact Kd.R_ne ho hb ht
theorem IsS54.apartQ {w0 W : World} {g : Nat} {f0 : List Int} {f1 : Int} {α : Type} {d : Kd α} {e : Nat} {base : Nat} {ok : Nat → Prop} {v : Value} {xs : List α} (h : IsS54 w0 W g f0 f1) (ho : d.Q e W base ok v xs) (ht : ∀ q, q ∈ e :: d.E → q ≠ 54) : d.Q e W base (fun k => ok k ∧ k ≠ g) v xs := by
  obtain ⟨A0, c0, hb, hg, hr0⟩ := h
  exact Kd.Q_types ho hb ht
theorem IsS54.own_neQ {w0 W : World} {g : Nat} {f0 : List Int} {f1 : Int} {α : Type} {d : Kd α} {e : Nat} {base : Nat} {ok : Nat → Prop} {v : Value} {xs : List α} (h : IsS54 w0 W g f0 f1) (ho : d.Q e W base ok v xs) (ht : e ≠ 54) : some g ≠ v.ownBlock := by
  obtain ⟨A0, c0, hb, hg, hr0⟩ := h
  exact Kd.Q_ne ho hb ht
theorem IsS54.apartS {w0 W : World} {g : Nat} {f0 : List Int} {f1 : Int} {α : Type} {d : Kd α} {e : Nat} {base : Nat} {ok : Nat → Prop} {v : Value} {xs : List α} (h : IsS54 w0 W g f0 f1) (ho : d.S e W base ok v xs) (ht : ∀ q, q ∈ e :: d.E → q ≠ 54) : d.S e W base (fun k => ok k ∧ k ≠ g) v xs := by
  obtain ⟨A0, c0, hb, hg, hr0⟩ := h
  exact Kd.S_types ho hb ht
theorem IsS54.own_neS {w0 W : World} {g : Nat} {f0 : List Int} {f1 : Int} {α : Type} {d : Kd α} {e : Nat} {base : Nat} {ok : Nat → Prop} {v : Value} {xs : List α} (h : IsS54 w0 W g f0 f1) (ho : d.S e W base ok v xs) (ht : e ≠ 54) : some g ≠ v.ownBlock := by
  obtain ⟨A0, c0, hb, hg, hr0⟩ := h
  exact Kd.S_ne ho hb ht
theorem IsS54.lt {w0 W : World} {g : Nat} {f0 : List Int} {f1 : Int} (h : IsS54 w0 W g f0 f1) : g < W.heap.size := by
  obtain ⟨A0, c0, hb, hg, hr0⟩ := h
  exact blk_lt hb
theorem IsS54.ge {w0 W : World} {g : Nat} {f0 : List Int} {f1 : Int} (h : IsS54 w0 W g f0 f1) : w0.heap.size ≤ g := by
  obtain ⟨A0, c0, hb, hg, hr0⟩ := h
  exact hg
theorem IsS54.ne_blk {w0 W : World} {g : Nat} {f0 : List Int} {f1 : Int} {a : Nat} {cs : Array Value} {t : TypeId} {fr : Nat × Nat} (h : IsS54 w0 W g f0 f1) (hb2 : W.heap[a]? = some (.cells cs t fr)) (ht : t ≠ 54) : g ≠ a := by
  obtain ⟨A0, c0, hb, hg, hr0⟩ := h
  rintro rfl
  rw [hb] at hb2
  injection hb2 with hb2
  injection hb2 with _ ht2
  exact ht ht2.symm
theorem IsS54.far {w0 W : World} {g : Nat} {f0 : List Int} {f1 : Int} {p : Addr} (h : IsS54 w0 W g f0 f1) (hne : g ≠ p.block) (u : Value) : IsS54 w0 (W.setCell p u) g f0 f1 := by
  obtain ⟨A0, c0, hb, hg, hr0⟩ := h
  exact ⟨A0, c0, blk_far hb hne u, hg, hr0⟩
theorem cellS54_0 {W : World} {g : Nat} {A0 : Option Addr} {c0 : Nat} {f0 : List Int} {f1 : Int} (h : W.heap[g]? = some (.cells #[.slice A0 f0.length c0, .int .i64 f1] 54 (0, 0))) : W.cell? ⟨g, 0, none⟩ = some (.slice A0 f0.length c0) := (blk_cell h 0).trans rfl
theorem cellS54_1 {W : World} {g : Nat} {A0 : Option Addr} {c0 : Nat} {f0 : List Int} {f1 : Int} (h : W.heap[g]? = some (.cells #[.slice A0 f0.length c0, .int .i64 f1] 54 (0, 0))) : W.cell? ⟨g, 1, none⟩ = some (.int .i64 f1) := (blk_cell h 1).trans rfl
theorem IsS54.set_1 {w0 W : World} {g : Nat} {f0 : List Int} {f1 : Int} (h : IsS54 w0 W g f0 f1) (x : Int) : IsS54 w0 (W.setCell ⟨g, 1, none⟩ (.int .i64 x)) g f0 x := by
  obtain ⟨A0, c0, hb, hg, hr0⟩ := h
  exact ⟨A0, c0, by simpa using blk_set hb 1 (.int .i64 x), hg, hr0⟩
theorem IsS54.new (w0 W : World) (A0 : Option Addr) (c0 : Nat) (f0 : List Int) (f1 : Int) (hB : Below w0.heap.size w0 W) (hr0 : Kd.C (Kd.int .u8) w0 A0 f0.length f0) : IsS54 w0 (W.alloc (.cells #[.slice A0 f0.length c0, .int .i64 f1] 54)) W.heap.size f0 f1 := ⟨A0, c0, by simpa using heap_alloc_new W _, hB.size, hr0⟩

/-! ### spec_l6Open: function 44 -/
def spec_l6Open.f (l0 : List Int) : Option (List Int × Int) := if (l0.length : Int) > 2000 then (if 2000 ≤ (l0.length : Int) then (some (l0.take 2000, 0)) else (none)) else (some (l0, 0))
set_option maxHeartbeats 8000000 in
set_option maxRecDepth 100000 in
theorem spec_l6Open.calls (A0 : Option Addr) (c0 : Nat) (l0 : List Int) (r1 : List Int) (r2 : Int) (w0 w : World) (hB : Below w0.heap.size w0 w) (hr0 : Kd.C (Kd.int .u8) w0 A0 l0.length l0) (hc0 : l0.length ≤ c0) (h : spec_l6Open.f l0 = some (r1, r2)) :
    Calls Try.prog 44 #[.slice A0 l0.length c0] w fun e w' => ∃ g_ : Nat, e = .returned (.pointer (some ⟨g_, 0, none⟩)) ∧ IsS54 w0 w' g_ r1 r2 ∧ Below w0.heap.size w0 w' ∧ Below w.heap.size w w' := by
  have hu54 := Try.underlying54
  have HR0 := Aside0.mk hr0
  have HC0 := Aside0.mk hc0
  clear hr0 hc0
  have HBW := Aside0.mk (Below.refl w.heap.size w)
  have HW0 := Aside0.mk hB.size
  have HB := Aside0.mk hB
  clear hB
  have H : (if (l0.length : Int) > 2000 then (if 2000 ≤ (l0.length : Int) then (some (l0.take 2000, 0)) else (none)) else (some (l0, 0))) = some (r1, r2) := h
  clear h
  by_cases c2 : (l0.length : Int) > 2000
  · rw [if_pos c2] at H
    have c2b0 : decide (2000 < (l0.length : Int)) = true := decide_eq_true c2
    have c2b1 : decide (2000 < l0.length) = true := decide_eq_true (by omega)
    clear c2
    by_cases c3 : 2000 ≤ (l0.length : Int)
    · rw [if_pos c3] at H
      have c3b0 := eq_true c3
      have c3b1 : decide (2000 ≤ (l0.length : Int)) = true := decide_eq_true c3
      clear c3
      simp only [Option.some.injEq, Prod.mk.injEq] at H
      obtain ⟨rfl, rfl⟩ := H
      obtain ⟨i04, hi04, _, hsz4, _⟩ := info_parts info5
      obtain ⟨hcut4, hA4, hC4⟩ := print_take_of (P := Try.prog) (Value.int .u8) 0 25 5 .i64 Try.underlying25 hi04 hsz4 A0 c0 l0 2000 (by omega) (of_decide_eq_true (by first | (with_reducible assumption) | assumption)) HC0.out
      have HR140 := Aside0.mk (Kd.C_of_reads (h1 := fun _ => rfl) (hA4 _ (Kd.reads_of_C HR0.out)))
      have HC140 := Aside0.mk hC4
      clear hA4 hC4 hi04 hsz4
      go_enter Try.func44, Try.ntmps44
      go_wp2_with (first | ((with_reducible refine gate_dst (N := 10) rfl ?_); refine box_event ?hg (N := 10) ?hd (cs := #[.slice A0 (l0.take 2000).length c0, .int .i64 0]) (t := 54) ?hr ?_; (case hd => rfl); (case hg => rfl); (case hr => first | (go_simp; done) | (go_simp; rfl)); intro gb141 hg w5 hbox hb; have n0_ := Aside0.mk (below_step HBW.out hb); have n1_ := Aside0.mk (below_step (by repeat (first | (with_reducible first | exact HB.out | apply below_alloc | apply pw_below_drewN | apply below_drew1) | exact HB.out)) hb); have n2_ := Aside0.mk (hbox); have n3_ := Aside0.mk ((by rw [hg]; exact (below_size (by repeat (first | (with_reducible first | exact HBW.out | apply below_alloc | apply pw_below_drewN | apply below_drew1) | exact HBW.out))) : w.heap.size ≤ gb141)); have n4_ := Aside0.mk ((Nat.le_trans HW0.out (by rw [hg]; exact (below_size (by repeat (first | (with_reducible first | exact HBW.out | apply below_alloc | apply pw_below_drewN | apply below_drew1) | exact HBW.out))) : w.heap.size ≤ gb141) : w0.heap.size ≤ gb141)); clear HBW; clear HB; have HBW := n0_; have HB := n1_; have BK141 := n2_; have GW141 := n3_; have GE141 := n4_; clear n0_ n1_ n2_ n3_ n4_; clear hb hbox hg))
      go_ret
      exact ⟨_, rfl, (show IsS54 w0 _ gb141 (l0.take 2000) 0 from ⟨_, _, by (with_reducible repeat (first | refine blk_drewN ?_ _ | refine blk_drew ?_ | refine blk_alloc ?_ _)); exact BK141.out, GE141.out, HR140.out⟩), by repeat (first | (with_reducible first | exact HB.out | apply below_alloc | apply pw_below_drewN | apply below_drew1 | refine below_set ?_ GE141.out) | exact HB.out), by repeat (first | (with_reducible first | exact HBW.out | apply below_alloc | apply pw_below_drewN | apply below_drew1 | refine below_set ?_ GW141.out) | exact HBW.out)⟩
    · rw [if_neg c3] at H
      exact absurd H (by simp)
  · rw [if_neg c2] at H
    have c2b0 : decide (2000 < (l0.length : Int)) = false := decide_eq_false c2
    have c2b1 : decide (2000 < l0.length) = false := decide_eq_false (by omega)
    clear c2
    simp only [Option.some.injEq, Prod.mk.injEq] at H
    obtain ⟨rfl, rfl⟩ := H
    go_enter Try.func44, Try.ntmps44
    go_wp2_with (first | ((with_reducible refine gate_dst (N := 10) rfl ?_); refine box_event ?hg (N := 10) ?hd (cs := #[.slice A0 l0.length c0, .int .i64 0]) (t := 54) ?hr ?_; (case hd => rfl); (case hg => rfl); (case hr => first | (go_simp; done) | (go_simp; rfl)); intro gb142 hg w6 hbox hb; have n0_ := Aside0.mk (below_step HBW.out hb); have n1_ := Aside0.mk (below_step (by repeat (first | (with_reducible first | exact HB.out | apply below_alloc | apply pw_below_drewN | apply below_drew1) | exact HB.out)) hb); have n2_ := Aside0.mk (hbox); have n3_ := Aside0.mk ((by rw [hg]; exact (below_size (by repeat (first | (with_reducible first | exact HBW.out | apply below_alloc | apply pw_below_drewN | apply below_drew1) | exact HBW.out))) : w.heap.size ≤ gb142)); have n4_ := Aside0.mk ((Nat.le_trans HW0.out (by rw [hg]; exact (below_size (by repeat (first | (with_reducible first | exact HBW.out | apply below_alloc | apply pw_below_drewN | apply below_drew1) | exact HBW.out))) : w.heap.size ≤ gb142) : w0.heap.size ≤ gb142)); clear HBW; clear HB; have HBW := n0_; have HB := n1_; have BK142 := n2_; have GW142 := n3_; have GE142 := n4_; clear n0_ n1_ n2_ n3_ n4_; clear hb hbox hg))
    go_ret
    exact ⟨_, rfl, (show IsS54 w0 _ gb142 l0 0 from ⟨_, _, by (with_reducible repeat (first | refine blk_drewN ?_ _ | refine blk_drew ?_ | refine blk_alloc ?_ _)); exact BK142.out, GE142.out, HR0.out⟩), by repeat (first | (with_reducible first | exact HB.out | apply below_alloc | apply pw_below_drewN | apply below_drew1 | refine below_set ?_ GE142.out) | exact HB.out), by repeat (first | (with_reducible first | exact HBW.out | apply below_alloc | apply pw_below_drewN | apply below_drew1 | refine below_set ?_ GW142.out) | exact HBW.out)⟩

end Go.Proofs.Ytbcacnofgmcdcaa.QFnTryFree
