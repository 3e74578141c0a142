-- Written by a program of this session (wip/myprint.py, over the kit's print) for the law FnPolyShares.
import Derived.Test.YtbcacnofgmcdcaaQFnPolySharesx0
namespace Go.Proofs.Ytbcacnofgmcdcaa.QFnPolyShares
open Go.RowKit Go.Proofs.YtbcacnofgmcdcaaW.PrintWords Go.Proofs.YtbcacnofgmcdcaaW.PrintLast Go.Proofs.YtbcacnofgmcdcaaW.PrintMore
attribute [local go_sem] max2_int min2_int max_two min_two max_three min_three max_four min_four   -- for this text's walks alone
set_option linter.unusedVariables false
set_option linter.unusedSimpArgs false

/-! ### impl_PolyShares: function 16 -/
/-! ### small words of this session: frames of one written variable -/
theorem gb_refl (w : World) (row : Option Nat) : w.grownBy w row := ⟨rfl, rfl, rfl, Nat.le_refl _, fun _ _ _ => rfl⟩
theorem gb_drewN {a w : World} {row : Option Nat} (h : a.grownBy w row) (n : Nat) : a.grownBy (w.drewN n) row := ⟨h.os, h.tape, h.output, h.size, h.block⟩
theorem gb_setCell {a w : World} {g : Nat} (h : a.grownBy w (some g)) (u : Value) : a.grownBy (w.setCell ⟨g, 0, none⟩ u) (some g) :=
  ⟨h.os, h.tape, h.output, by simpa [World.setCell] using h.size, fun i hi hne => (Below.heap_setCell w ⟨g, 0, none⟩ u i (fun e => hne (by rw [e]))).trans (h.block i hi hne)⟩
theorem gb_lt {w : World} {b : Nat} {o : Obj} (h : w.heap[b]? = some o) : b < w.heap.size := (Array.getElem?_eq_some_iff.1 h).1
theorem one_set {w : World} {g : Nat} {u v : Value} {t : TypeId} (h : w.heap[g]? = some (.cells #[u] t (0, 0))) : (w.setCell ⟨g, 0, none⟩ v).heap[g]? = some (.cells #[v] t (0, 0)) := one_setCell h

theorem gb_trans {a b c : World} {row : Option Nat} (h : a.grownBy b row) (k : b.grownBy c row) : a.grownBy c row :=
  ⟨k.os.trans h.os, k.tape.trans h.tape, k.output.trans h.output, Nat.le_trans h.size k.size, fun i hi hne => (k.block i (Nat.lt_of_lt_of_le hi h.size) hne).trans (h.block i hi hne)⟩
theorem gb_drew {a w : World} {row : Option Nat} (h : a.grownBy w row) : a.grownBy w.drew row := ⟨h.os, h.tape, h.output, h.size, h.block⟩
theorem blk_new (w : World) (o : Obj) {g : Nat} (h : w.heap.size = g) : (w.alloc o).heap[g]? = some o := by
  subst h
  show (w.heap.push o)[_]? = _
  simp
theorem blk_two (w : World) (o o2 : Obj) (n : Nat) : (((w.alloc o).drewN n).alloc o2).heap[w.heap.size]? = some o := by
  show ((w.heap.push o).push o2)[_]? = _
  simp [Array.getElem?_push]
def slices_Clone_int_int.ren : Go.Shelf.Ren := ⟨fun | 15 => 55 | n => n, fun | 22 => 29 | 3 => 3 | 4 => 4 | n => n, fun | n => n⟩
theorem slices_Clone_int_int.lays : Go.Proofs.Lays2.n15 Try.prog slices_Clone_int_int.ren := {
  mixed := by kernel_rfl
  f15 := Try.func55.trans (congrArg some (by kernel_rfl))
  t3 := Try.underlying3
  a3 := Try.isAgg3
  z3 := Try.sizeOf3
  v3 := Try.zeroValue3
  t4 := Try.underlying4
  a4 := Try.isAgg4
  z4 := Try.sizeOf4
  v4 := Try.zeroValue4
  t22 := Try.underlying29
  a22 := Try.isAgg29
  z22 := Try.sizeOf29
  v22 := Try.zeroValue29
  i3 := by kernel_rfl }
theorem slices_Clone_int_int.some_ (b off n c : Nat) (zs : List Int) (w : World) (hz : n ≤ zs.length) (hbig : n * 8 ≤ 140737488355328) (hc : ∀ j, j < zs.length → w.cell? ⟨b, off + j, none⟩ = some (.int .i64 (zs.getD j 0))) :
    Calls Try.prog 55 #[.slice (some ⟨b, off, none⟩) n c] w fun e w' => ∃ v', e = .returned v' ∧ w'.ownsRow w.heap.size 3 1 v' n ((zs.take n).map (Value.int .i64)) ∧ v' ≠ .slice none 0 0 ∧ Below w.heap.size w w' := Any.slices_Clone_int slices_Clone_int_int.lays b off n c zs w hz hbig hc
theorem slices_Clone_int_int.nil_ (n c : Nat) (w : World) :
    Calls Try.prog 55 #[.slice none n c] w fun e w' => e = .returned (.slice none 0 0) ∧ w' = w := Any.slices_Clone_int_nil slices_Clone_int_int.lays n c w
theorem slices_Clone_int_int.zero_ (a : Addr) (c : Nat) (w : World) :
    Calls Try.prog 55 #[.slice (some a) 0 c] w fun e w' => ∃ v', e = .returned v' ∧ w'.ownsRow w.heap.size 3 1 v' 0 [] ∧ v' ≠ .slice none 0 0 ∧ Below w.heap.size w w' := Any.slices_Clone_int_zero slices_Clone_int_int.lays a c w
def slices_Clone_int_int.f (l0 : List Int) : Option (List Int) := if l0.length ≤ 17592186044416 then some l0 else none
theorem slices_Clone_int_int.calls (A0 : Option Addr) (c0 : Nat) (l0 : List Int) (r : List Int) (w : World) (hr0 : Kd.C (Kd.int .i64) w A0 l0.length l0) (hc0 : l0.length ≤ c0) (h : slices_Clone_int_int.f l0 = some r) :
    Calls Try.prog 55 #[.slice A0 l0.length c0] w fun e w' => ∃ v0_ : Value, e = .returned (v0_) ∧ Kd.R (Kd.int .i64) 3 w' w.heap.size (fun _ => True) v0_ r ∧ Below w.heap.size w w' := by
  unfold slices_Clone_int_int.f at h
  by_cases hl : l0.length ≤ 17592186044416
  · rw [if_pos hl] at h
    obtain rfl := Option.some.inj h
    by_cases h0 : l0.length = 0
    · obtain rfl : l0 = [] := List.eq_nil_of_length_eq_zero h0
      cases A0 with
      | none =>
        refine (slices_Clone_int_int.nil_ _ c0 w).mono ?_
        rintro e w' ⟨rfl, rfl⟩
        exact ⟨_, rfl, Kd.R_nil _ _ _ _ _, Below.refl _ _⟩
      | some a =>
        refine (slices_Clone_int_int.zero_ a c0 w).mono ?_
        rintro e w' ⟨v, rfl, ho, _, hb⟩
        exact ⟨_, rfl, Kd.R_of_own (h1 := fun _ => rfl) (ok := fun _ => True) ho (fun _ _ => trivial), hb⟩
    · obtain ⟨ad, rfl, c⟩ := Kd.at_int hr0 0 (by omega) (by omega)
      obtain ⟨b, off, spot⟩ := ad
      have hspot : spot = none := by
        have := World.cell?_spot c
        simpa [Addr.add] using this
      subst hspot
      refine (slices_Clone_int_int.some_ b off l0.length c0 l0 w (Nat.le_refl _) (by omega) ?_).mono ?_
      · intro j hj
        obtain ⟨ad2, e2, c2⟩ := Kd.at_int hr0 (j : Int) (by omega) (by omega)
        cases e2
        rw [rd, Int.toNat_natCast] at c2
        rw [← Addr.add_lit]
        exact c2
      · rintro e w' ⟨v, rfl, ho, _, hb⟩
        rw [List.take_length] at ho
        exact ⟨_, rfl, Kd.R_of_own (h1 := fun _ => rfl) (ok := fun _ => True) ho (fun _ _ => trivial), hb⟩
  · rw [if_neg hl] at h
    cases h
theorem impl_PolyShares.info3 : (Try.prog.info? 3).map (fun i => (i.zero, i.size, i.bytes)) = some (some (.int .i64 0), 1, 8) := by kernel_rfl
mutual
def impl_PolyShares.sh : Nat → Int → List Int → Int → Int → Option Int
  | 0, _, _, _, _ => none
  | k + 1, n, a, left, m => if 0 < (a.length : Int) then (if wrap64 (n - (a.length : Int)) = 1 then (if left < rd a ((a.length : Int) - 1) then some m else (if a.length < 1000000 then some (wrap64 (m + 1)) else none)) else impl_PolyShares.ls k n a left (wrap64 (n - (a.length : Int))) (rd a ((a.length : Int) - 1)) m)
    else (if wrap64 (n - (a.length : Int)) = 1 then (if left < 1 then some m else (if a.length < 1000000 then some (wrap64 (m + 1)) else none)) else impl_PolyShares.ls k n a left (wrap64 (n - (a.length : Int))) 1 m)
def impl_PolyShares.ls : Nat → Int → List Int → Int → Int → Int → Int → Option Int
  | 0, _, _, _, _, _, _ => none
  | k + 1, n, a, left, rest, x, m => if wrap64 (x * rest) ≤ left then (if a.length < 1000000 then ((impl_PolyShares.sh k n (a ++ [x]) (wrap64 (left - x)) m).bind fun m2 => impl_PolyShares.ls k n a left rest (wrap64 (x + 1)) m2) else none) else some m
end
theorem impl_PolyShares.mono_l : ∀ k, (∀ a b c d, LeO (impl_PolyShares.sh k a b c d) (impl_PolyShares.sh (k + 1) a b c d)) ∧ (∀ a b c d e f, LeO (impl_PolyShares.ls k a b c d e f) (impl_PolyShares.ls (k + 1) a b c d e f))
  | 0 => ⟨fun _ _ _ _ r h => by simp [impl_PolyShares.sh] at h, fun _ _ _ _ _ _ r h => by simp [impl_PolyShares.ls] at h⟩
  | k + 1 => by
    obtain ⟨i0, i1⟩ := impl_PolyShares.mono_l k
    refine ⟨fun a b c d => ?_, fun a b c d e f => ?_⟩
    · unfold impl_PolyShares.sh
      exact LeO.ite (LeO.ite (LeO.refl _) (i1 _ _ _ _ _ _)) (LeO.ite (LeO.refl _) (i1 _ _ _ _ _ _))
    · unfold impl_PolyShares.ls
      exact LeO.ite (LeO.ite (LeO.bind (i0 _ _ _ _) (fun _ => i1 _ _ _ _ _ _)) (LeO.none _)) (LeO.refl _)
structure impl_PolyShares.Env (A : Option Addr) (c : Nat) (a : List Int) (n : Int) (Bm Bn Bf Bt : Nat) (w : World) : Prop where
  hC : ∀ W, w.grownBy W (some Bm) → Kd.C (Kd.int .i64) W A a.length a
  hN : ∀ W, w.grownBy W (some Bm) → W.heap[Bn]? = some (.cells #[.int .i64 n] 3 (0, 0))
  hF : ∀ W, w.grownBy W (some Bm) → W.heap[Bf]? = some (.cells #[.func (.func 42) #[] #[.pointer (some ⟨Bm, 0, none⟩)]] 33 (0, 0))
  hT : ∀ W, w.grownBy W (some Bm) → W.heap[Bt]? = some (.cells #[.func (.func 59) #[] #[.pointer (some ⟨Bn, 0, none⟩), .pointer (some ⟨Bf, 0, none⟩), .pointer (some ⟨Bt, 0, none⟩)]] 52 (0, 0))
  hc : a.length ≤ c
  hb : Bm < w.heap.size
def impl_PolyShares.Says (k : Nat) (n : Int) (a : List Int) (left m r : Int) (A : Option Addr) (c Bm Bn Bf Bt : Nat) (w : World) : Prop :=
  impl_PolyShares.Env A c a n Bm Bn Bf Bt w → w.heap[Bm]? = some (.cells #[.int .i64 m] 3 (0, 0)) → impl_PolyShares.sh k n a left m = some r →
    Calls Try.prog 59 #[.slice A a.length c, .int .i64 left, .pointer (some ⟨Bn, 0, none⟩), .pointer (some ⟨Bf, 0, none⟩), .pointer (some ⟨Bt, 0, none⟩)] w fun e w' => e = .returned (.bool true) ∧ w.grownBy w' (some Bm) ∧ w'.heap[Bm]? = some (.cells #[.int .i64 r] 3 (0, 0))
theorem impl_PolyShares.grown_of {w W : World} {row : Option Nat} (h : Below w.heap.size w W) : w.grownBy W row := ⟨h.os, h.tape, h.output, h.size, fun i hi _ => h.block i hi⟩
theorem impl_PolyShares.newC (W : World) (x : Int) : Kd.C (Kd.int .i64) (W.alloc (.cells #[.int .i64 x] 3 (0, 0))) (some ⟨W.heap.size, 0, none⟩) 1 [x] := by
  refine Kd.C_of_reads (d := 0) ⟨rfl, by decide, fun _ => ⟨⟨W.heap.size, 0, none⟩, rfl, fun j hj => ?_⟩⟩
  obtain rfl : j = 0 := by omega
  rw [add_plain]
  have hb := blk_new W (.cells #[.int .i64 x] 3 (0, 0)) rfl
  unfold World.cell?
  rw [hb]
  rfl
set_option maxHeartbeats 1000000 in
set_option maxRecDepth 100000 in
theorem impl_PolyShares.tell (v : Value) (Bm : Nat) (m : Int) (w : World) (hM : w.heap[Bm]? = some (.cells #[.int .i64 m] 3 (0, 0))) :
    Calls Try.prog 42 #[v, .pointer (some ⟨Bm, 0, none⟩)] w fun e w' => e = .returned (.bool true) ∧ w.grownBy w' (some Bm) ∧ w'.heap[Bm]? = some (.cells #[.int .i64 (wrap64 (m + 1))] 3 (0, 0)) := by
  have cM := cell_of_one hM
  have fM := free_of_one hM
  have HM := Aside0.mk hM
  clear hM
  go_enter Try.func42, Try.ntmps42
  go_wp2
  (first | go_ret | go_ret2)
  refine ⟨by first | rfl | (simp; done), ?_, ?_⟩
  · first | exact gb_setCell (gb_refl _ _) _ | exact gb_drew (gb_setCell (gb_refl _ _) _)
  · rw [← i64_w]; first | exact one_set HM.out
set_option maxHeartbeats 4000000 in
set_option maxRecDepth 100000 in
theorem impl_PolyShares.clo_zless (k1 : Nat) (ih : ∀ k', k' < k1 + 1 → ∀ n a left m r A c Bm Bn Bf Bt w, impl_PolyShares.Says k' n a left m r A c Bm Bn Bf Bt w) (n : Int) (a : List Int) (left m r : Int) (A : Option Addr) (c Bm Bn Bf Bt : Nat) (w : World)
    (hE : impl_PolyShares.Env A c a n Bm Bn Bf Bt w) (hM : w.heap[Bm]? = some (.cells #[.int .i64 m] 3 (0, 0))) (rest : Int) (hj : wrap64 (n - (a.length : Int)) = rest) (hp : ¬ 0 < (a.length : Int)) (h1 : rest = 1) (hlow : left < 1) (hr : m = r) :
    Calls Try.prog 59 #[.slice A a.length c, .int .i64 left, .pointer (some ⟨Bn, 0, none⟩), .pointer (some ⟨Bf, 0, none⟩), .pointer (some ⟨Bt, 0, none⟩)] w fun e w' => e = .returned (.bool true) ∧ w.grownBy w' (some Bm) ∧ w'.heap[Bm]? = some (.cells #[.int .i64 r] 3 (0, 0)) := by
  have HE := Aside0.mk hE
  have HM2 := Aside0.mk hM
  have HG2 := Aside0.mk (gb_refl w (some Bm))
  have cN := cell_of_one (hE.hN w (gb_refl _ _))
  have hjw : IntKind.i64.wrap (n - (a.length : Int)) = rest := (i64_w _).trans hj
  have p1 : decide (0 < (a.length : Int)) = false := decide_eq_false hp
  have q1 : (rest == 1) = true := beq_iff_eq.mpr h1
  have l1 : decide (left < 1) = true := decide_eq_true hlow
  clear hE ih hM h1
  go_enter Try.func59, Try.ntmps59
  go_wp2
  (first | go_ret | go_ret2)
  subst hr
  exact ⟨by first | rfl | (simp; done), HG2.out, HM2.out⟩
set_option maxHeartbeats 4000000 in
set_option maxRecDepth 100000 in
theorem impl_PolyShares.clo_ztell (k1 : Nat) (ih : ∀ k', k' < k1 + 1 → ∀ n a left m r A c Bm Bn Bf Bt w, impl_PolyShares.Says k' n a left m r A c Bm Bn Bf Bt w) (n : Int) (a : List Int) (left m r : Int) (A : Option Addr) (c Bm Bn Bf Bt : Nat) (w : World)
    (hE : impl_PolyShares.Env A c a n Bm Bn Bf Bt w) (hM : w.heap[Bm]? = some (.cells #[.int .i64 m] 3 (0, 0))) (rest : Int) (hj : wrap64 (n - (a.length : Int)) = rest) (hp : ¬ 0 < (a.length : Int)) (h1 : rest = 1) (hlow : ¬ left < 1) (hlen : a.length < 1000000) (hr : wrap64 (m + 1) = r) :
    Calls Try.prog 59 #[.slice A a.length c, .int .i64 left, .pointer (some ⟨Bn, 0, none⟩), .pointer (some ⟨Bf, 0, none⟩), .pointer (some ⟨Bt, 0, none⟩)] w fun e w' => e = .returned (.bool true) ∧ w.grownBy w' (some Bm) ∧ w'.heap[Bm]? = some (.cells #[.int .i64 r] 3 (0, 0)) := by
  have HE := Aside0.mk hE
  have HM2 := Aside0.mk hM
  have HG2 := Aside0.mk (gb_refl w (some Bm))
  have cN := cell_of_one (hE.hN w (gb_refl _ _))
  have hjw : IntKind.i64.wrap (n - (a.length : Int)) = rest := (i64_w _).trans hj
  have p1 : decide (0 < (a.length : Int)) = false := decide_eq_false hp
  have q1 : (rest == 1) = true := beq_iff_eq.mpr h1
  have l1 : decide (left < 1) = false := decide_eq_false hlow
  have HC2 := Aside0.mk hlen
  have cT := cell_of_one (hE.hF w (gb_refl _ _))
  obtain ⟨w2, rfl⟩ : ∃ w2 : World, w2 = w := ⟨_, rfl⟩
  clear hlen
  clear hE ih hM h1
  go_enter Try.func59, Try.ntmps59
  go_wp2
  refine start_ (n := 8) (S := fun w' => w'.cell? ⟨Bf, 0, none⟩ = some (.func (.func 42) #[] #[.pointer (some ⟨Bm, 0, none⟩)])) (ds := []) #[false, false, false, false, false, false, false, false] (by kernel_rfl) rfl rfl cT (fun hHeld => ?_)
  refine pure_ (i := 1) (N := some 30) (v := ?_) (a' := ?_) #[false, true, false, false, false, false, false, false] rfl rfl (by kernel_rfl) (fun _ _ _ h => h) (Or.inl ⟨by rfl, ?_⟩) ?_ ?_
  rotate_left
  · intro w'
    go_simp
    with_reducible rfl
  rotate_left
  · simp only [Act.put, List.setIfInBounds_toArray, List.set_cons_zero, List.set_cons_succ, i64_w, i32_w]
    rfl
  refine pure_ (i := 3) (N := some 32) (v := ?_) (a' := ?_) #[false, true, false, true, false, false, false, false] rfl rfl (by kernel_rfl) (fun _ _ _ h => h) (Or.inl ⟨by rfl, ?_⟩) ?_ ?_
  rotate_left
  · intro w'
    go_simp
    with_reducible rfl
  rotate_left
  · simp only [Act.put, List.setIfInBounds_toArray, List.set_cons_zero, List.set_cons_succ, i64_w, i32_w]
    rfl
  refine take_ (i := 0) (N := some 29) (v := ?_) (a' := ?_) #[true, true, false, true, false, false, false, false] rfl rfl (by kernel_rfl) (fun _ _ _ h => h) (Or.inl ⟨by rfl, ?_⟩) hHeld ?_ ?_
  rotate_left
  · intro w' s0
    go_simp
    with_reducible rfl
  rotate_left
  · simp only [Act.put, List.setIfInBounds_toArray, List.set_cons_zero, List.set_cons_succ, i64_w, i32_w]
    rfl
  refine two_ (i := 2) (j := 4) (Ni := some 31) (Nj := some 33) #[true, true, true, true, false, false, false, false] #[true, true, false, true, true, false, false, false] rfl rfl rfl rfl (by kernel_rfl) (by decide) (by decide) (fun K hK => ?_) (fun K hK => ?_)
  · refine goes_ Try.func55 (by kernel_rfl) rfl #[.slice A a.length c] (by rfl) rfl rfl (by (try simp only [List.map_toArray, List.map_cons, List.map_nil]); first | done | rfl) ?_
    refine (slices_Clone_int_int.calls A c a a _ ?s1 ?s2 ?s3).mono ?_
    (case s1 => repeat (first | exact HE.out.hC _ HG2.out | (with_reducible refine Kd.C_alloc ?_ _) | (with_reducible refine Kd.C_drew ?_)))
    (case s2 => exact HE.out.hc)
    (case s3 => exact if_pos (by have := HC2.out; omega))
    rintro e w3 ⟨v, rfl, ho, hb⟩
    refine ⟨_, rfl, ?_⟩
    have HB3 := Aside0.mk (below_step (show Below w2.heap.size w2 _ by repeat (first | exact Below.refl _ _ | apply below_alloc | apply below_drew1)) hb)
    have HO3 := Aside0.mk (Kd.R_lower ho (show Below w2.heap.size w2 _ by repeat (first | exact Below.refl _ _ | apply below_alloc | apply below_drew1)).size)
    clear ho hb
    refine hK.out _ _ (pw_cell_below HB3.out cT) (fun hHeld => ?_)
    clear hK K
    refine norm_ (a' := ?_) ?_ ?_
    rotate_left
    · show Act.put _ (some 31) _ = _
      simp only [Act.put, List.setIfInBounds_toArray, List.set_cons_zero, List.set_cons_succ, i64_w, i32_w]
      rfl
    refine one_ (i := 4) (N := some 33) #[true, true, true, true, true, false, false, false] rfl rfl (by kernel_rfl) (by decide) (fun K hK => ?_)
    refine value_ (w1 := ?_) (v := ?_) (by rfl) rfl ?_ ?_
    rotate_left 2
    · go_simp
      constructor
      · rfl
      · rfl
    refine hK.out _ _ (pw_cell_below (below_alloc (Below.refl _ _) _) (pw_cell_below (Below.refl _ _) (pw_cell_below HB3.out cT))) (fun hHeld => ?_)
    clear hK K
    refine norm_ (a' := ?_) ?_ ?_
    rotate_left
    · show Act.put _ (some 33) _ = _
      simp only [Act.put, List.setIfInBounds_toArray, List.set_cons_zero, List.set_cons_succ, i64_w, i32_w]
      rfl
    refine one_ (i := 5) (N := some 34) #[true, true, true, true, true, true, false, false] rfl rfl (by kernel_rfl) (by decide) (fun K hK => ?_)
    refine Kd.R_append_rows_step (Kd.int .i64) (w0 := w2) w2.heap.size (by rfl) (.tmp 31) (.tmp 33) 29 3 (.int .i64 0) 8 rfl Try.underlying29 impl_PolyShares.info3 rfl (by decide) (by omega) v a [left] _ _ _ (fun _ => True) (fun _ => False) rfl rfl ?aO ?aR (fun _ _ h => h) (fun _ h => h.elim) ?aF ?aB ?aS ?aL ?_
    (case aR => exact (impl_PolyShares.newC w3 left))
    (case aF => exact (fun _ _ => trivial))
    (case aO => exact (Kd.R_alloc HO3.out _))
    (case aB => exact (below_alloc HB3.out _))
    (case aS => exact (below_size (below_alloc HB3.out _)))
    (case aL => have := HC2.out; simp; omega)
    intro v1 w4 ho hb hg hat
    clear hg hat
    have HO4 := Aside0.mk ho
    have HB4 := Aside0.mk hb
    obtain ⟨A1, c1_, eo1⟩ := Kd.R_slice HO4.out
    subst eo1
    clear ho hb
    refine hK.out _ _ (pw_cell_below HB4.out cT) (fun hHeld => ?_)
    clear hK K
    refine norm_ (a' := ?_) ?_ ?_
    rotate_left
    · show Act.put _ (some 34) _ = _
      simp only [Act.put, List.setIfInBounds_toArray, List.set_cons_zero, List.set_cons_succ, i64_w, i32_w]
      rfl
    refine one_ (i := 6) (N := some 35) #[true, true, true, true, true, true, true, false] rfl rfl (by kernel_rfl) (by decide) (fun K hK => ?_)
    have hlt2 : Bm < w2.heap.size := Nat.lt_of_lt_of_le HE.out.hb HG2.out.size
    have HG4 := Aside0.mk (gb_trans HG2.out (impl_PolyShares.grown_of (row := some Bm) HB4.out))
    have cl := Aside0.mk (impl_PolyShares.tell (.slice A1 (a ++ [left]).length c1_) Bm m w4 ((HB4.out.block Bm hlt2).trans HM2.out))
    refine call_ 42 #[.slice A1 (a ++ [left]).length c1_, .pointer (some ⟨Bm, 0, none⟩)] (by rfl) rfl ?hrun ?_
    (case hrun => have he := enters_ Try.func42 (by kernel_rfl) rfl #[.slice A1 (a ++ [left]).length c1_, .pointer (some ⟨Bm, 0, none⟩)] w4; simp [execOp, resolve, Deferred.ofValue, invoke, Act.eval, he] at he ⊢; try exact he)
    refine cl.out.mono ?_
    rintro e w5 ⟨rfl, hg5, hn5⟩
    refine ⟨_, rfl, ?_⟩
    have HG5 := Aside0.mk (gb_trans HG4.out hg5)
    have HM5 := Aside0.mk hn5
    clear hg5 hn5
    refine hK.out _ _ (cell_of_one (HE.out.hF w5 HG5.out)) (fun hHeld => ?_)
    clear hK K
    refine norm_ (a' := ?_) ?_ ?_
    rotate_left
    · show Act.put _ (some 35) _ = _
      simp only [Act.put, List.setIfInBounds_toArray, List.set_cons_zero, List.set_cons_succ, i64_w, i32_w]
      rfl
    refine pure_ (i := 7) (N := some 7) (v := ?_) (a' := ?_) #[true, true, true, true, true, true, true, true] rfl rfl (by kernel_rfl) (fun _ _ _ h => h) (Or.inl ⟨by rfl, ?_⟩) ?_ ?_
    rotate_left
    · intro w'
      go_simp
      with_reducible rfl
    rotate_left
    · simp only [Act.put, List.setIfInBounds_toArray, List.set_cons_zero, List.set_cons_succ, i64_w, i32_w]
      rfl
    refine done_ (by kernel_rfl) ?_
    clear hHeld
    go_wp2
    (first | go_ret | go_ret2)
    subst hr
    exact ⟨by first | rfl | (simp; done), HG5.out, HM5.out⟩
  · refine value_ (w1 := ?_) (v := ?_) (by rfl) rfl ?_ ?_
    rotate_left 2
    · go_simp
      constructor
      · rfl
      · rfl
    refine hK.out _ _ (pw_cell_below (below_alloc (Below.refl _ _) _) (pw_cell_below (Below.refl _ _) cT)) (fun hHeld => ?_)
    clear hK K
    refine norm_ (a' := ?_) ?_ ?_
    rotate_left
    · show Act.put _ (some 33) _ = _
      simp only [Act.put, List.setIfInBounds_toArray, List.set_cons_zero, List.set_cons_succ, i64_w, i32_w]
      rfl
    refine one_ (i := 2) (N := some 31) #[true, true, true, true, true, false, false, false] rfl rfl (by kernel_rfl) (by decide) (fun K hK => ?_)
    refine goes_ Try.func55 (by kernel_rfl) rfl #[.slice A a.length c] (by rfl) rfl rfl (by (try simp only [List.map_toArray, List.map_cons, List.map_nil]); first | done | rfl) ?_
    refine (slices_Clone_int_int.calls A c a a _ ?s1 ?s2 ?s3).mono ?_
    (case s1 => repeat (first | exact HE.out.hC _ HG2.out | (with_reducible refine Kd.C_alloc ?_ _) | (with_reducible refine Kd.C_drew ?_)))
    (case s2 => exact HE.out.hc)
    (case s3 => exact if_pos (by have := HC2.out; omega))
    rintro e w3 ⟨v, rfl, ho, hb⟩
    refine ⟨_, rfl, ?_⟩
    have HB3 := Aside0.mk (below_step (show Below w2.heap.size w2 _ by repeat (first | exact Below.refl _ _ | apply below_alloc | apply below_drew1)) hb)
    have HO3 := Aside0.mk (Kd.R_lower ho (show Below w2.heap.size w2 _ by repeat (first | exact Below.refl _ _ | apply below_alloc | apply below_drew1)).size)
    have HX3 := Aside0.mk (Kd.C_below (impl_PolyShares.newC w2.drew left) hb)
    clear ho hb
    refine hK.out _ _ (pw_cell_below HB3.out cT) (fun hHeld => ?_)
    clear hK K
    refine norm_ (a' := ?_) ?_ ?_
    rotate_left
    · show Act.put _ (some 31) _ = _
      simp only [Act.put, List.setIfInBounds_toArray, List.set_cons_zero, List.set_cons_succ, i64_w, i32_w]
      rfl
    refine one_ (i := 5) (N := some 34) #[true, true, true, true, true, true, false, false] rfl rfl (by kernel_rfl) (by decide) (fun K hK => ?_)
    refine Kd.R_append_rows_step (Kd.int .i64) (w0 := w2) w2.heap.size (by rfl) (.tmp 31) (.tmp 33) 29 3 (.int .i64 0) 8 rfl Try.underlying29 impl_PolyShares.info3 rfl (by decide) (by omega) v a [left] _ _ _ (fun _ => True) (fun _ => False) rfl rfl ?aO ?aR (fun _ _ h => h) (fun _ h => h.elim) ?aF ?aB ?aS ?aL ?_
    (case aR => exact HX3.out)
    (case aF => exact (fun _ _ => trivial))
    (case aO => exact HO3.out)
    (case aB => exact HB3.out)
    (case aS => exact (below_size HB3.out))
    (case aL => have := HC2.out; simp; omega)
    intro v1 w4 ho hb hg hat
    clear hg hat
    have HO4 := Aside0.mk ho
    have HB4 := Aside0.mk hb
    obtain ⟨A1, c1_, eo1⟩ := Kd.R_slice HO4.out
    subst eo1
    clear ho hb
    refine hK.out _ _ (pw_cell_below HB4.out cT) (fun hHeld => ?_)
    clear hK K
    refine norm_ (a' := ?_) ?_ ?_
    rotate_left
    · show Act.put _ (some 34) _ = _
      simp only [Act.put, List.setIfInBounds_toArray, List.set_cons_zero, List.set_cons_succ, i64_w, i32_w]
      rfl
    refine one_ (i := 6) (N := some 35) #[true, true, true, true, true, true, true, false] rfl rfl (by kernel_rfl) (by decide) (fun K hK => ?_)
    have hlt2 : Bm < w2.heap.size := Nat.lt_of_lt_of_le HE.out.hb HG2.out.size
    have HG4 := Aside0.mk (gb_trans HG2.out (impl_PolyShares.grown_of (row := some Bm) HB4.out))
    have cl := Aside0.mk (impl_PolyShares.tell (.slice A1 (a ++ [left]).length c1_) Bm m w4 ((HB4.out.block Bm hlt2).trans HM2.out))
    refine call_ 42 #[.slice A1 (a ++ [left]).length c1_, .pointer (some ⟨Bm, 0, none⟩)] (by rfl) rfl ?hrun ?_
    (case hrun => have he := enters_ Try.func42 (by kernel_rfl) rfl #[.slice A1 (a ++ [left]).length c1_, .pointer (some ⟨Bm, 0, none⟩)] w4; simp [execOp, resolve, Deferred.ofValue, invoke, Act.eval, he] at he ⊢; try exact he)
    refine cl.out.mono ?_
    rintro e w5 ⟨rfl, hg5, hn5⟩
    refine ⟨_, rfl, ?_⟩
    have HG5 := Aside0.mk (gb_trans HG4.out hg5)
    have HM5 := Aside0.mk hn5
    clear hg5 hn5
    refine hK.out _ _ (cell_of_one (HE.out.hF w5 HG5.out)) (fun hHeld => ?_)
    clear hK K
    refine norm_ (a' := ?_) ?_ ?_
    rotate_left
    · show Act.put _ (some 35) _ = _
      simp only [Act.put, List.setIfInBounds_toArray, List.set_cons_zero, List.set_cons_succ, i64_w, i32_w]
      rfl
    refine pure_ (i := 7) (N := some 7) (v := ?_) (a' := ?_) #[true, true, true, true, true, true, true, true] rfl rfl (by kernel_rfl) (fun _ _ _ h => h) (Or.inl ⟨by rfl, ?_⟩) ?_ ?_
    rotate_left
    · intro w'
      go_simp
      with_reducible rfl
    rotate_left
    · simp only [Act.put, List.setIfInBounds_toArray, List.set_cons_zero, List.set_cons_succ, i64_w, i32_w]
      rfl
    refine done_ (by kernel_rfl) ?_
    clear hHeld
    go_wp2
    (first | go_ret | go_ret2)
    subst hr
    exact ⟨by first | rfl | (simp; done), HG5.out, HM5.out⟩
set_option maxHeartbeats 4000000 in
set_option maxRecDepth 100000 in
theorem impl_PolyShares.clo_zloop (k1 : Nat) (ih : ∀ k', k' < k1 + 1 → ∀ n a left m r A c Bm Bn Bf Bt w, impl_PolyShares.Says k' n a left m r A c Bm Bn Bf Bt w) (n : Int) (a : List Int) (left m r : Int) (A : Option Addr) (c Bm Bn Bf Bt : Nat) (w : World)
    (hE : impl_PolyShares.Env A c a n Bm Bn Bf Bt w) (hM : w.heap[Bm]? = some (.cells #[.int .i64 m] 3 (0, 0))) (rest : Int) (hj : wrap64 (n - (a.length : Int)) = rest) (hp : ¬ 0 < (a.length : Int)) (h1 : rest ≠ 1) (hl : impl_PolyShares.ls k1 n a left rest 1 m = some r) :
    Calls Try.prog 59 #[.slice A a.length c, .int .i64 left, .pointer (some ⟨Bn, 0, none⟩), .pointer (some ⟨Bf, 0, none⟩), .pointer (some ⟨Bt, 0, none⟩)] w fun e w' => e = .returned (.bool true) ∧ w.grownBy w' (some Bm) ∧ w'.heap[Bm]? = some (.cells #[.int .i64 r] 3 (0, 0)) := by
  have HE := Aside0.mk hE
  have HM2 := Aside0.mk hM
  have HG2 := Aside0.mk (gb_refl w (some Bm))
  have cN := cell_of_one (hE.hN w (gb_refl _ _))
  have hjw : IntKind.i64.wrap (n - (a.length : Int)) = rest := (i64_w _).trans hj
  have p1 : decide (0 < (a.length : Int)) = false := decide_eq_false hp
  have q1 : (rest == 1) = false := beq_eq_false_iff_ne.mpr h1
  have IH := Aside0.mk ih
  have HL := Aside0.mk hl
  clear hl
  clear hE ih hM h1
  go_enter Try.func59, Try.ntmps59
  go_wp2
  go_loopg [10] k1 (fun kq v10 w' => ∃ (x m : Int), v10 = .int .i64 x ∧ Aside0 (impl_PolyShares.ls kq n a left rest x m = some r) ∧ Aside0 (kq ≤ k1) ∧ Aside0 (w.grownBy w' (some Bm)) ∧ Aside0 (w'.heap[Bm]? = some (.cells #[.int .i64 m] 3 (0, 0))))
  case atStart => exact ⟨_, _, (by first | rfl | (simp; done)), HL, ⟨Nat.le_refl _⟩, HG2, HM2⟩
  case round =>
    clear HL HG2 HM2
    obtain ⟨x, m, rfl, HH, HK1, HG2, HM2⟩ := hrel
    obtain ⟨w2, rfl⟩ : ∃ w2 : World, w2 = wr := ⟨_, rfl⟩
    cases gk with
    | zero => exact absurd HH.out (by simp [impl_PolyShares.ls])
    | succ k2 =>
      have H := HH.out
      clear HH
      simp only [impl_PolyShares.ls] at H
      obtain ⟨y, hy⟩ : ∃ y : Int, wrap64 (x * rest) = y := ⟨_, rfl⟩
      have hyw : IntKind.i64.wrap (x * rest) = y := (i64_w _).trans hy
      rw [hy] at H
      by_cases c1 : y ≤ left
      · rw [if_pos c1] at H
        have c1b : decide (y ≤ left) = true := decide_eq_true c1
        clear c1
        by_cases c2 : a.length < 1000000
        · rw [if_pos c2] at H
          obtain ⟨m2, hm2, H⟩ := Option.bind_eq_some_iff.mp H
          have Hm2 := Aside0.mk hm2
          have H' := Aside0.mk H
          have HC2 := Aside0.mk c2
          have cT := cell_of_one (HE.out.hT w2 HG2.out)
          clear H hm2 c2
          go_wp2
          refine start_ (n := 11) (S := fun w' => w'.cell? ⟨Bt, 0, none⟩ = some (.func (.func 59) #[] #[.pointer (some ⟨Bn, 0, none⟩), .pointer (some ⟨Bf, 0, none⟩), .pointer (some ⟨Bt, 0, none⟩)])) (ds := []) #[false, false, false, false, false, false, false, false, false, false, false] (by kernel_rfl) rfl rfl cT (fun hHeld => ?_)
          refine pure_ (i := 1) (N := some 45) (v := ?_) (a' := ?_) #[false, true, false, false, false, false, false, false, false, false, false] rfl rfl (by kernel_rfl) (fun _ _ _ h => h) (Or.inl ⟨by rfl, ?_⟩) ?_ ?_
          rotate_left
          · intro w'
            go_simp
            with_reducible rfl
          rotate_left
          · simp only [Act.put, List.setIfInBounds_toArray, List.set_cons_zero, List.set_cons_succ, i64_w, i32_w]
            rfl
          refine pure_ (i := 3) (N := some 47) (v := ?_) (a' := ?_) #[false, true, false, true, false, false, false, false, false, false, false] rfl rfl (by kernel_rfl) (fun _ _ _ h => h) (Or.inl ⟨by rfl, ?_⟩) ?_ ?_
          rotate_left
          · intro w'
            go_simp
            with_reducible rfl
          rotate_left
          · simp only [Act.put, List.setIfInBounds_toArray, List.set_cons_zero, List.set_cons_succ, i64_w, i32_w]
            rfl
          refine pure_ (i := 6) (N := some 50) (v := ?_) (a' := ?_) #[false, true, false, true, false, false, true, false, false, false, false] rfl rfl (by kernel_rfl) (fun _ _ _ h => h) (Or.inl ⟨by rfl, ?_⟩) ?_ ?_
          rotate_left
          · intro w'
            go_simp
            with_reducible rfl
          rotate_left
          · simp only [Act.put, List.setIfInBounds_toArray, List.set_cons_zero, List.set_cons_succ, i64_w, i32_w]
            rfl
          refine pure_ (i := 7) (N := some 51) (v := ?_) (a' := ?_) #[false, true, false, true, false, false, true, true, false, false, false] rfl rfl (by kernel_rfl) (fun _ _ _ h => h) (Or.inl ⟨by rfl, ?_⟩) ?_ ?_
          rotate_left
          · intro w'
            go_simp
            with_reducible rfl
          rotate_left
          · simp only [Act.put, List.setIfInBounds_toArray, List.set_cons_zero, List.set_cons_succ, i64_w, i32_w]
            rfl
          refine pure_ (i := 8) (N := some 52) (v := ?_) (a' := ?_) #[false, true, false, true, false, false, true, true, true, false, false] rfl rfl (by kernel_rfl) (fun _ _ _ h => h) (Or.inl ⟨by rfl, ?_⟩) ?_ ?_
          rotate_left
          · intro w'
            go_simp
            with_reducible rfl
          rotate_left
          · simp only [Act.put, List.setIfInBounds_toArray, List.set_cons_zero, List.set_cons_succ, i64_w, i32_w]
            rfl
          refine take_ (i := 0) (N := some 44) (v := ?_) (a' := ?_) #[true, true, false, true, false, false, true, true, true, false, false] rfl rfl (by kernel_rfl) (fun _ _ _ h => h) (Or.inl ⟨by rfl, ?_⟩) hHeld ?_ ?_
          rotate_left
          · intro w' s0
            go_simp
            with_reducible rfl
          rotate_left
          · simp only [Act.put, List.setIfInBounds_toArray, List.set_cons_zero, List.set_cons_succ, i64_w, i32_w]
            rfl
          refine two_ (i := 2) (j := 4) (Ni := some 46) (Nj := some 48) #[true, true, true, true, false, false, true, true, true, false, false] #[true, true, false, true, true, false, true, true, true, false, false] rfl rfl rfl rfl (by kernel_rfl) (by decide) (by decide) (fun K hK => ?_) (fun K hK => ?_)
          · refine goes_ Try.func55 (by kernel_rfl) rfl #[.slice A a.length c] (by rfl) rfl rfl (by (try simp only [List.map_toArray, List.map_cons, List.map_nil]); first | done | rfl) ?_
            refine (slices_Clone_int_int.calls A c a a _ ?s1 ?s2 ?s3).mono ?_
            (case s1 => repeat (first | exact HE.out.hC _ HG2.out | (with_reducible refine Kd.C_alloc ?_ _) | (with_reducible refine Kd.C_drew ?_)))
            (case s2 => exact HE.out.hc)
            (case s3 => exact if_pos (by have := HC2.out; omega))
            rintro e w3 ⟨v, rfl, ho, hb⟩
            refine ⟨_, rfl, ?_⟩
            have HB3 := Aside0.mk (below_step (show Below w2.heap.size w2 _ by repeat (first | exact Below.refl _ _ | apply below_alloc | apply below_drew1)) hb)
            have HO3 := Aside0.mk (Kd.R_lower ho (show Below w2.heap.size w2 _ by repeat (first | exact Below.refl _ _ | apply below_alloc | apply below_drew1)).size)
            clear ho hb
            refine hK.out _ _ (pw_cell_below HB3.out cT) (fun hHeld => ?_)
            clear hK K
            refine norm_ (a' := ?_) ?_ ?_
            rotate_left
            · show Act.put _ (some 46) _ = _
              simp only [Act.put, List.setIfInBounds_toArray, List.set_cons_zero, List.set_cons_succ, i64_w, i32_w]
              rfl
            refine one_ (i := 4) (N := some 48) #[true, true, true, true, true, false, true, true, true, false, false] rfl rfl (by kernel_rfl) (by decide) (fun K hK => ?_)
            refine value_ (w1 := ?_) (v := ?_) (by rfl) rfl ?_ ?_
            rotate_left 2
            · go_simp
              constructor
              · rfl
              · rfl
            refine hK.out _ _ (pw_cell_below (below_alloc (Below.refl _ _) _) (pw_cell_below (Below.refl _ _) (pw_cell_below HB3.out cT))) (fun hHeld => ?_)
            clear hK K
            refine norm_ (a' := ?_) ?_ ?_
            rotate_left
            · show Act.put _ (some 48) _ = _
              simp only [Act.put, List.setIfInBounds_toArray, List.set_cons_zero, List.set_cons_succ, i64_w, i32_w]
              rfl
            refine one_ (i := 5) (N := some 49) #[true, true, true, true, true, true, true, true, true, false, false] rfl rfl (by kernel_rfl) (by decide) (fun K hK => ?_)
            refine Kd.R_append_rows_step (Kd.int .i64) (w0 := w2) w2.heap.size (by rfl) (.tmp 46) (.tmp 48) 29 3 (.int .i64 0) 8 rfl Try.underlying29 impl_PolyShares.info3 rfl (by decide) (by omega) v a [x] _ _ _ (fun _ => True) (fun _ => False) rfl rfl ?aO ?aR (fun _ _ h => h) (fun _ h => h.elim) ?aF ?aB ?aS ?aL ?_
            (case aR => exact (impl_PolyShares.newC w3 x))
            (case aF => exact (fun _ _ => trivial))
            (case aO => exact (Kd.R_alloc HO3.out _))
            (case aB => exact (below_alloc HB3.out _))
            (case aS => exact (below_size (below_alloc HB3.out _)))
            (case aL => have := HC2.out; simp; omega)
            intro v1 w4 ho hb hg hat
            clear hg hat
            have HO4 := Aside0.mk ho
            have HB4 := Aside0.mk hb
            obtain ⟨A1, c1_, eo1⟩ := Kd.R_slice HO4.out
            subst eo1
            clear ho hb
            refine hK.out _ _ (pw_cell_below HB4.out cT) (fun hHeld => ?_)
            clear hK K
            refine norm_ (a' := ?_) ?_ ?_
            rotate_left
            · show Act.put _ (some 49) _ = _
              simp only [Act.put, List.setIfInBounds_toArray, List.set_cons_zero, List.set_cons_succ, i64_w, i32_w]
              rfl
            refine one_ (i := 9) (N := some 53) #[true, true, true, true, true, true, true, true, true, true, false] rfl rfl (by kernel_rfl) (by decide) (fun K hK => ?_)
            have hlt2 : Bm < w2.heap.size := Nat.lt_of_lt_of_le HE.out.hb HG2.out.size
            have HG4 := Aside0.mk (gb_trans HG2.out (impl_PolyShares.grown_of (row := some Bm) HB4.out))
            have ENV := Aside0.mk (show impl_PolyShares.Env A1 c1_ (a ++ [x]) n Bm Bn Bf Bt w4 from ⟨fun W hW => (Kd.R_reads' (Kd.R_grown1 HO4.out rfl hW (fun e => by have := Kd.R_base HO4.out Bm e.symm; omega))).2.2, fun W hW => HE.out.hN W (gb_trans HG4.out hW), fun W hW => HE.out.hF W (gb_trans HG4.out hW), fun W hW => HE.out.hT W (gb_trans HG4.out hW), (Kd.R_reads' HO4.out).2.1, Nat.lt_of_lt_of_le hlt2 HB4.out.size⟩)
            have cl := Aside0.mk (IH.out k2 (by have := HK1.out; omega) n (a ++ [x]) (wrap64 (left - x)) m m2 A1 c1_ Bm Bn Bf Bt w4 ENV.out ((HB4.out.block Bm hlt2).trans HM2.out) Hm2.out)
            refine call_ 59 #[.slice A1 (a ++ [x]).length c1_, .int .i64 (wrap64 (left - x)), .pointer (some ⟨Bn, 0, none⟩), .pointer (some ⟨Bf, 0, none⟩), .pointer (some ⟨Bt, 0, none⟩)] (by rfl) rfl ?hrun ?_
            (case hrun => have he := enters_ Try.func59 (by kernel_rfl) rfl #[.slice A1 (a ++ [x]).length c1_, .int .i64 (wrap64 (left - x)), .pointer (some ⟨Bn, 0, none⟩), .pointer (some ⟨Bf, 0, none⟩), .pointer (some ⟨Bt, 0, none⟩)] w4; simp [execOp, resolve, Deferred.ofValue, invoke, Act.eval, he] at he ⊢; try exact he)
            refine cl.out.mono ?_
            rintro e w5 ⟨rfl, hg5, hn5⟩
            refine ⟨_, rfl, ?_⟩
            have HG5 := Aside0.mk (gb_trans HG4.out hg5)
            have HM5 := Aside0.mk hn5
            clear hg5 hn5
            refine hK.out _ _ (cell_of_one (HE.out.hT w5 HG5.out)) (fun hHeld => ?_)
            clear hK K
            refine norm_ (a' := ?_) ?_ ?_
            rotate_left
            · show Act.put _ (some 53) _ = _
              simp only [Act.put, List.setIfInBounds_toArray, List.set_cons_zero, List.set_cons_succ, i64_w, i32_w]
              rfl
            refine pure_ (i := 10) (N := some 54) (v := ?_) (a' := ?_) #[true, true, true, true, true, true, true, true, true, true, true] rfl rfl (by kernel_rfl) (fun _ _ _ h => h) (Or.inl ⟨by rfl, ?_⟩) ?_ ?_
            rotate_left
            · intro w'
              go_simp
              with_reducible rfl
            rotate_left
            · simp only [Act.put, List.setIfInBounds_toArray, List.set_cons_zero, List.set_cons_succ, i64_w, i32_w]
              rfl
            refine done_ (by kernel_rfl) ?_
            clear hHeld
            clear cl ENV
            go_wp2
            go_roundg k2
            case measure => have := HK1.out; omega
            case rel => exact ⟨_, _, (by first | rfl | (simp; done)), H', ⟨by have := HK1.out; omega⟩, HG5, HM5⟩
          · refine value_ (w1 := ?_) (v := ?_) (by rfl) rfl ?_ ?_
            rotate_left 2
            · go_simp
              constructor
              · rfl
              · rfl
            refine hK.out _ _ (pw_cell_below (below_alloc (Below.refl _ _) _) (pw_cell_below (Below.refl _ _) cT)) (fun hHeld => ?_)
            clear hK K
            refine norm_ (a' := ?_) ?_ ?_
            rotate_left
            · show Act.put _ (some 48) _ = _
              simp only [Act.put, List.setIfInBounds_toArray, List.set_cons_zero, List.set_cons_succ, i64_w, i32_w]
              rfl
            refine one_ (i := 2) (N := some 46) #[true, true, true, true, true, false, true, true, true, false, false] rfl rfl (by kernel_rfl) (by decide) (fun K hK => ?_)
            refine goes_ Try.func55 (by kernel_rfl) rfl #[.slice A a.length c] (by rfl) rfl rfl (by (try simp only [List.map_toArray, List.map_cons, List.map_nil]); first | done | rfl) ?_
            refine (slices_Clone_int_int.calls A c a a _ ?s1 ?s2 ?s3).mono ?_
            (case s1 => repeat (first | exact HE.out.hC _ HG2.out | (with_reducible refine Kd.C_alloc ?_ _) | (with_reducible refine Kd.C_drew ?_)))
            (case s2 => exact HE.out.hc)
            (case s3 => exact if_pos (by have := HC2.out; omega))
            rintro e w3 ⟨v, rfl, ho, hb⟩
            refine ⟨_, rfl, ?_⟩
            have HB3 := Aside0.mk (below_step (show Below w2.heap.size w2 _ by repeat (first | exact Below.refl _ _ | apply below_alloc | apply below_drew1)) hb)
            have HO3 := Aside0.mk (Kd.R_lower ho (show Below w2.heap.size w2 _ by repeat (first | exact Below.refl _ _ | apply below_alloc | apply below_drew1)).size)
            have HX3 := Aside0.mk (Kd.C_below (impl_PolyShares.newC w2.drew x) hb)
            clear ho hb
            refine hK.out _ _ (pw_cell_below HB3.out cT) (fun hHeld => ?_)
            clear hK K
            refine norm_ (a' := ?_) ?_ ?_
            rotate_left
            · show Act.put _ (some 46) _ = _
              simp only [Act.put, List.setIfInBounds_toArray, List.set_cons_zero, List.set_cons_succ, i64_w, i32_w]
              rfl
            refine one_ (i := 5) (N := some 49) #[true, true, true, true, true, true, true, true, true, false, false] rfl rfl (by kernel_rfl) (by decide) (fun K hK => ?_)
            refine Kd.R_append_rows_step (Kd.int .i64) (w0 := w2) w2.heap.size (by rfl) (.tmp 46) (.tmp 48) 29 3 (.int .i64 0) 8 rfl Try.underlying29 impl_PolyShares.info3 rfl (by decide) (by omega) v a [x] _ _ _ (fun _ => True) (fun _ => False) rfl rfl ?aO ?aR (fun _ _ h => h) (fun _ h => h.elim) ?aF ?aB ?aS ?aL ?_
            (case aR => exact HX3.out)
            (case aF => exact (fun _ _ => trivial))
            (case aO => exact HO3.out)
            (case aB => exact HB3.out)
            (case aS => exact (below_size HB3.out))
            (case aL => have := HC2.out; simp; omega)
            intro v1 w4 ho hb hg hat
            clear hg hat
            have HO4 := Aside0.mk ho
            have HB4 := Aside0.mk hb
            obtain ⟨A1, c1_, eo1⟩ := Kd.R_slice HO4.out
            subst eo1
            clear ho hb
            refine hK.out _ _ (pw_cell_below HB4.out cT) (fun hHeld => ?_)
            clear hK K
            refine norm_ (a' := ?_) ?_ ?_
            rotate_left
            · show Act.put _ (some 49) _ = _
              simp only [Act.put, List.setIfInBounds_toArray, List.set_cons_zero, List.set_cons_succ, i64_w, i32_w]
              rfl
            refine one_ (i := 9) (N := some 53) #[true, true, true, true, true, true, true, true, true, true, false] rfl rfl (by kernel_rfl) (by decide) (fun K hK => ?_)
            have hlt2 : Bm < w2.heap.size := Nat.lt_of_lt_of_le HE.out.hb HG2.out.size
            have HG4 := Aside0.mk (gb_trans HG2.out (impl_PolyShares.grown_of (row := some Bm) HB4.out))
            have ENV := Aside0.mk (show impl_PolyShares.Env A1 c1_ (a ++ [x]) n Bm Bn Bf Bt w4 from ⟨fun W hW => (Kd.R_reads' (Kd.R_grown1 HO4.out rfl hW (fun e => by have := Kd.R_base HO4.out Bm e.symm; omega))).2.2, fun W hW => HE.out.hN W (gb_trans HG4.out hW), fun W hW => HE.out.hF W (gb_trans HG4.out hW), fun W hW => HE.out.hT W (gb_trans HG4.out hW), (Kd.R_reads' HO4.out).2.1, Nat.lt_of_lt_of_le hlt2 HB4.out.size⟩)
            have cl := Aside0.mk (IH.out k2 (by have := HK1.out; omega) n (a ++ [x]) (wrap64 (left - x)) m m2 A1 c1_ Bm Bn Bf Bt w4 ENV.out ((HB4.out.block Bm hlt2).trans HM2.out) Hm2.out)
            refine call_ 59 #[.slice A1 (a ++ [x]).length c1_, .int .i64 (wrap64 (left - x)), .pointer (some ⟨Bn, 0, none⟩), .pointer (some ⟨Bf, 0, none⟩), .pointer (some ⟨Bt, 0, none⟩)] (by rfl) rfl ?hrun ?_
            (case hrun => have he := enters_ Try.func59 (by kernel_rfl) rfl #[.slice A1 (a ++ [x]).length c1_, .int .i64 (wrap64 (left - x)), .pointer (some ⟨Bn, 0, none⟩), .pointer (some ⟨Bf, 0, none⟩), .pointer (some ⟨Bt, 0, none⟩)] w4; simp [execOp, resolve, Deferred.ofValue, invoke, Act.eval, he] at he ⊢; try exact he)
            refine cl.out.mono ?_
            rintro e w5 ⟨rfl, hg5, hn5⟩
            refine ⟨_, rfl, ?_⟩
            have HG5 := Aside0.mk (gb_trans HG4.out hg5)
            have HM5 := Aside0.mk hn5
            clear hg5 hn5
            refine hK.out _ _ (cell_of_one (HE.out.hT w5 HG5.out)) (fun hHeld => ?_)
            clear hK K
            refine norm_ (a' := ?_) ?_ ?_
            rotate_left
            · show Act.put _ (some 53) _ = _
              simp only [Act.put, List.setIfInBounds_toArray, List.set_cons_zero, List.set_cons_succ, i64_w, i32_w]
              rfl
            refine pure_ (i := 10) (N := some 54) (v := ?_) (a' := ?_) #[true, true, true, true, true, true, true, true, true, true, true] rfl rfl (by kernel_rfl) (fun _ _ _ h => h) (Or.inl ⟨by rfl, ?_⟩) ?_ ?_
            rotate_left
            · intro w'
              go_simp
              with_reducible rfl
            rotate_left
            · simp only [Act.put, List.setIfInBounds_toArray, List.set_cons_zero, List.set_cons_succ, i64_w, i32_w]
              rfl
            refine done_ (by kernel_rfl) ?_
            clear hHeld
            clear cl ENV
            go_wp2
            go_roundg k2
            case measure => have := HK1.out; omega
            case rel => exact ⟨_, _, (by first | rfl | (simp; done)), H', ⟨by have := HK1.out; omega⟩, HG5, HM5⟩
        · rw [if_neg c2] at H
          exact absurd H (by simp)
      · rw [if_neg c1] at H
        have c1b : decide (y ≤ left) = false := decide_eq_false c1
        clear c1
        obtain rfl := Option.some.inj H
        go_wp2
        (first | go_ret | go_ret2 | go_end0)
        exact ⟨by first | rfl | (simp; done), HG2.out, HM2.out⟩
set_option maxHeartbeats 4000000 in
set_option maxRecDepth 100000 in
theorem impl_PolyShares.clo_pless (k1 : Nat) (ih : ∀ k', k' < k1 + 1 → ∀ n a left m r A c Bm Bn Bf Bt w, impl_PolyShares.Says k' n a left m r A c Bm Bn Bf Bt w) (n : Int) (a : List Int) (left m r : Int) (A : Option Addr) (c Bm Bn Bf Bt : Nat) (w : World)
    (hE : impl_PolyShares.Env A c a n Bm Bn Bf Bt w) (hM : w.heap[Bm]? = some (.cells #[.int .i64 m] 3 (0, 0))) (rest : Int) (hj : wrap64 (n - (a.length : Int)) = rest) (hp : 0 < (a.length : Int)) (h1 : rest = 1) (hlow : left < (rd a ((a.length : Int) - 1))) (hr : m = r) :
    Calls Try.prog 59 #[.slice A a.length c, .int .i64 left, .pointer (some ⟨Bn, 0, none⟩), .pointer (some ⟨Bf, 0, none⟩), .pointer (some ⟨Bt, 0, none⟩)] w fun e w' => e = .returned (.bool true) ∧ w.grownBy w' (some Bm) ∧ w'.heap[Bm]? = some (.cells #[.int .i64 r] 3 (0, 0)) := by
  have HE := Aside0.mk hE
  have HM2 := Aside0.mk hM
  have HG2 := Aside0.mk (gb_refl w (some Bm))
  have cN := cell_of_one (hE.hN w (gb_refl _ _))
  have hjw : IntKind.i64.wrap (n - (a.length : Int)) = rest := (i64_w _).trans hj
  have p1 : decide (0 < (a.length : Int)) = true := decide_eq_true hp
  have q1 : (rest == 1) = true := beq_iff_eq.mpr h1
  have hmx := (hE.hC w (gb_refl _ _)).2.1
  have hw1 : IntKind.i64.wrap ((a.length : Int) - 1) = (a.length : Int) - 1 := by rw [i64_w]; unfold wrap64; omega
  have b0 : (0 ≤ (a.length : Int) - 1) = True := eq_true (by omega)
  have b1 : ((a.length : Int) - 1 < (a.length : Int)) = True := eq_true (by omega)
  obtain ⟨ad, eA, cA⟩ := Kd.at_int (hE.hC w (gb_refl _ _)) ((a.length : Int) - 1) (by omega) (by omega)
  subst eA
  rw [show ((a.length : Int) - 1).toNat = a.length - 1 by omega] at cA
  have l1 : decide (left < (rd a ((a.length : Int) - 1))) = true := decide_eq_true hlow
  clear hE ih hM h1
  go_enter Try.func59, Try.ntmps59
  go_wp2
  (first | go_ret | go_ret2)
  subst hr
  exact ⟨by first | rfl | (simp; done), HG2.out, HM2.out⟩
set_option maxHeartbeats 4000000 in
set_option maxRecDepth 100000 in
theorem impl_PolyShares.clo_ptell (k1 : Nat) (ih : ∀ k', k' < k1 + 1 → ∀ n a left m r A c Bm Bn Bf Bt w, impl_PolyShares.Says k' n a left m r A c Bm Bn Bf Bt w) (n : Int) (a : List Int) (left m r : Int) (A : Option Addr) (c Bm Bn Bf Bt : Nat) (w : World)
    (hE : impl_PolyShares.Env A c a n Bm Bn Bf Bt w) (hM : w.heap[Bm]? = some (.cells #[.int .i64 m] 3 (0, 0))) (rest : Int) (hj : wrap64 (n - (a.length : Int)) = rest) (hp : 0 < (a.length : Int)) (h1 : rest = 1) (hlow : ¬ left < (rd a ((a.length : Int) - 1))) (hlen : a.length < 1000000) (hr : wrap64 (m + 1) = r) :
    Calls Try.prog 59 #[.slice A a.length c, .int .i64 left, .pointer (some ⟨Bn, 0, none⟩), .pointer (some ⟨Bf, 0, none⟩), .pointer (some ⟨Bt, 0, none⟩)] w fun e w' => e = .returned (.bool true) ∧ w.grownBy w' (some Bm) ∧ w'.heap[Bm]? = some (.cells #[.int .i64 r] 3 (0, 0)) := by
  have HE := Aside0.mk hE
  have HM2 := Aside0.mk hM
  have HG2 := Aside0.mk (gb_refl w (some Bm))
  have cN := cell_of_one (hE.hN w (gb_refl _ _))
  have hjw : IntKind.i64.wrap (n - (a.length : Int)) = rest := (i64_w _).trans hj
  have p1 : decide (0 < (a.length : Int)) = true := decide_eq_true hp
  have q1 : (rest == 1) = true := beq_iff_eq.mpr h1
  have hmx := (hE.hC w (gb_refl _ _)).2.1
  have hw1 : IntKind.i64.wrap ((a.length : Int) - 1) = (a.length : Int) - 1 := by rw [i64_w]; unfold wrap64; omega
  have b0 : (0 ≤ (a.length : Int) - 1) = True := eq_true (by omega)
  have b1 : ((a.length : Int) - 1 < (a.length : Int)) = True := eq_true (by omega)
  obtain ⟨ad, eA, cA⟩ := Kd.at_int (hE.hC w (gb_refl _ _)) ((a.length : Int) - 1) (by omega) (by omega)
  subst eA
  rw [show ((a.length : Int) - 1).toNat = a.length - 1 by omega] at cA
  have l1 : decide (left < (rd a ((a.length : Int) - 1))) = false := decide_eq_false hlow
  have HC2 := Aside0.mk hlen
  have cT := cell_of_one (hE.hF w (gb_refl _ _))
  obtain ⟨w2, rfl⟩ : ∃ w2 : World, w2 = w := ⟨_, rfl⟩
  clear hlen
  clear hE ih hM h1
  go_enter Try.func59, Try.ntmps59
  go_wp2
  refine start_ (n := 8) (S := fun w' => w'.cell? ⟨Bf, 0, none⟩ = some (.func (.func 42) #[] #[.pointer (some ⟨Bm, 0, none⟩)])) (ds := []) #[false, false, false, false, false, false, false, false] (by kernel_rfl) rfl rfl cT (fun hHeld => ?_)
  refine pure_ (i := 1) (N := some 30) (v := ?_) (a' := ?_) #[false, true, false, false, false, false, false, false] rfl rfl (by kernel_rfl) (fun _ _ _ h => h) (Or.inl ⟨by rfl, ?_⟩) ?_ ?_
  rotate_left
  · intro w'
    go_simp
    with_reducible rfl
  rotate_left
  · simp only [Act.put, List.setIfInBounds_toArray, List.set_cons_zero, List.set_cons_succ, i64_w, i32_w]
    rfl
  refine pure_ (i := 3) (N := some 32) (v := ?_) (a' := ?_) #[false, true, false, true, false, false, false, false] rfl rfl (by kernel_rfl) (fun _ _ _ h => h) (Or.inl ⟨by rfl, ?_⟩) ?_ ?_
  rotate_left
  · intro w'
    go_simp
    with_reducible rfl
  rotate_left
  · simp only [Act.put, List.setIfInBounds_toArray, List.set_cons_zero, List.set_cons_succ, i64_w, i32_w]
    rfl
  refine take_ (i := 0) (N := some 29) (v := ?_) (a' := ?_) #[true, true, false, true, false, false, false, false] rfl rfl (by kernel_rfl) (fun _ _ _ h => h) (Or.inl ⟨by rfl, ?_⟩) hHeld ?_ ?_
  rotate_left
  · intro w' s0
    go_simp
    with_reducible rfl
  rotate_left
  · simp only [Act.put, List.setIfInBounds_toArray, List.set_cons_zero, List.set_cons_succ, i64_w, i32_w]
    rfl
  refine two_ (i := 2) (j := 4) (Ni := some 31) (Nj := some 33) #[true, true, true, true, false, false, false, false] #[true, true, false, true, true, false, false, false] rfl rfl rfl rfl (by kernel_rfl) (by decide) (by decide) (fun K hK => ?_) (fun K hK => ?_)
  · refine goes_ Try.func55 (by kernel_rfl) rfl #[.slice (some ad) a.length c] (by rfl) rfl rfl (by (try simp only [List.map_toArray, List.map_cons, List.map_nil]); first | done | rfl) ?_
    refine (slices_Clone_int_int.calls (some ad) c a a _ ?s1 ?s2 ?s3).mono ?_
    (case s1 => repeat (first | exact HE.out.hC _ HG2.out | (with_reducible refine Kd.C_alloc ?_ _) | (with_reducible refine Kd.C_drew ?_)))
    (case s2 => exact HE.out.hc)
    (case s3 => exact if_pos (by have := HC2.out; omega))
    rintro e w3 ⟨v, rfl, ho, hb⟩
    refine ⟨_, rfl, ?_⟩
    have HB3 := Aside0.mk (below_step (show Below w2.heap.size w2 _ by repeat (first | exact Below.refl _ _ | apply below_alloc | apply below_drew1)) hb)
    have HO3 := Aside0.mk (Kd.R_lower ho (show Below w2.heap.size w2 _ by repeat (first | exact Below.refl _ _ | apply below_alloc | apply below_drew1)).size)
    clear ho hb
    refine hK.out _ _ (pw_cell_below HB3.out cT) (fun hHeld => ?_)
    clear hK K
    refine norm_ (a' := ?_) ?_ ?_
    rotate_left
    · show Act.put _ (some 31) _ = _
      simp only [Act.put, List.setIfInBounds_toArray, List.set_cons_zero, List.set_cons_succ, i64_w, i32_w]
      rfl
    refine one_ (i := 4) (N := some 33) #[true, true, true, true, true, false, false, false] rfl rfl (by kernel_rfl) (by decide) (fun K hK => ?_)
    refine value_ (w1 := ?_) (v := ?_) (by rfl) rfl ?_ ?_
    rotate_left 2
    · go_simp
      constructor
      · rfl
      · rfl
    refine hK.out _ _ (pw_cell_below (below_alloc (Below.refl _ _) _) (pw_cell_below (Below.refl _ _) (pw_cell_below HB3.out cT))) (fun hHeld => ?_)
    clear hK K
    refine norm_ (a' := ?_) ?_ ?_
    rotate_left
    · show Act.put _ (some 33) _ = _
      simp only [Act.put, List.setIfInBounds_toArray, List.set_cons_zero, List.set_cons_succ, i64_w, i32_w]
      rfl
    refine one_ (i := 5) (N := some 34) #[true, true, true, true, true, true, false, false] rfl rfl (by kernel_rfl) (by decide) (fun K hK => ?_)
    refine Kd.R_append_rows_step (Kd.int .i64) (w0 := w2) w2.heap.size (by rfl) (.tmp 31) (.tmp 33) 29 3 (.int .i64 0) 8 rfl Try.underlying29 impl_PolyShares.info3 rfl (by decide) (by omega) v a [left] _ _ _ (fun _ => True) (fun _ => False) rfl rfl ?aO ?aR (fun _ _ h => h) (fun _ h => h.elim) ?aF ?aB ?aS ?aL ?_
    (case aR => exact (impl_PolyShares.newC w3 left))
    (case aF => exact (fun _ _ => trivial))
    (case aO => exact (Kd.R_alloc HO3.out _))
    (case aB => exact (below_alloc HB3.out _))
    (case aS => exact (below_size (below_alloc HB3.out _)))
    (case aL => have := HC2.out; simp; omega)
    intro v1 w4 ho hb hg hat
    clear hg hat
    have HO4 := Aside0.mk ho
    have HB4 := Aside0.mk hb
    obtain ⟨A1, c1_, eo1⟩ := Kd.R_slice HO4.out
    subst eo1
    clear ho hb
    refine hK.out _ _ (pw_cell_below HB4.out cT) (fun hHeld => ?_)
    clear hK K
    refine norm_ (a' := ?_) ?_ ?_
    rotate_left
    · show Act.put _ (some 34) _ = _
      simp only [Act.put, List.setIfInBounds_toArray, List.set_cons_zero, List.set_cons_succ, i64_w, i32_w]
      rfl
    refine one_ (i := 6) (N := some 35) #[true, true, true, true, true, true, true, false] rfl rfl (by kernel_rfl) (by decide) (fun K hK => ?_)
    have hlt2 : Bm < w2.heap.size := Nat.lt_of_lt_of_le HE.out.hb HG2.out.size
    have HG4 := Aside0.mk (gb_trans HG2.out (impl_PolyShares.grown_of (row := some Bm) HB4.out))
    have cl := Aside0.mk (impl_PolyShares.tell (.slice A1 (a ++ [left]).length c1_) Bm m w4 ((HB4.out.block Bm hlt2).trans HM2.out))
    refine call_ 42 #[.slice A1 (a ++ [left]).length c1_, .pointer (some ⟨Bm, 0, none⟩)] (by rfl) rfl ?hrun ?_
    (case hrun => have he := enters_ Try.func42 (by kernel_rfl) rfl #[.slice A1 (a ++ [left]).length c1_, .pointer (some ⟨Bm, 0, none⟩)] w4; simp [execOp, resolve, Deferred.ofValue, invoke, Act.eval, he] at he ⊢; try exact he)
    refine cl.out.mono ?_
    rintro e w5 ⟨rfl, hg5, hn5⟩
    refine ⟨_, rfl, ?_⟩
    have HG5 := Aside0.mk (gb_trans HG4.out hg5)
    have HM5 := Aside0.mk hn5
    clear hg5 hn5
    refine hK.out _ _ (cell_of_one (HE.out.hF w5 HG5.out)) (fun hHeld => ?_)
    clear hK K
    refine norm_ (a' := ?_) ?_ ?_
    rotate_left
    · show Act.put _ (some 35) _ = _
      simp only [Act.put, List.setIfInBounds_toArray, List.set_cons_zero, List.set_cons_succ, i64_w, i32_w]
      rfl
    refine pure_ (i := 7) (N := some 7) (v := ?_) (a' := ?_) #[true, true, true, true, true, true, true, true] rfl rfl (by kernel_rfl) (fun _ _ _ h => h) (Or.inl ⟨by rfl, ?_⟩) ?_ ?_
    rotate_left
    · intro w'
      go_simp
      with_reducible rfl
    rotate_left
    · simp only [Act.put, List.setIfInBounds_toArray, List.set_cons_zero, List.set_cons_succ, i64_w, i32_w]
      rfl
    refine done_ (by kernel_rfl) ?_
    clear hHeld
    go_wp2
    (first | go_ret | go_ret2)
    subst hr
    exact ⟨by first | rfl | (simp; done), HG5.out, HM5.out⟩
  · refine value_ (w1 := ?_) (v := ?_) (by rfl) rfl ?_ ?_
    rotate_left 2
    · go_simp
      constructor
      · rfl
      · rfl
    refine hK.out _ _ (pw_cell_below (below_alloc (Below.refl _ _) _) (pw_cell_below (Below.refl _ _) cT)) (fun hHeld => ?_)
    clear hK K
    refine norm_ (a' := ?_) ?_ ?_
    rotate_left
    · show Act.put _ (some 33) _ = _
      simp only [Act.put, List.setIfInBounds_toArray, List.set_cons_zero, List.set_cons_succ, i64_w, i32_w]
      rfl
    refine one_ (i := 2) (N := some 31) #[true, true, true, true, true, false, false, false] rfl rfl (by kernel_rfl) (by decide) (fun K hK => ?_)
    refine goes_ Try.func55 (by kernel_rfl) rfl #[.slice (some ad) a.length c] (by rfl) rfl rfl (by (try simp only [List.map_toArray, List.map_cons, List.map_nil]); first | done | rfl) ?_
    refine (slices_Clone_int_int.calls (some ad) c a a _ ?s1 ?s2 ?s3).mono ?_
    (case s1 => repeat (first | exact HE.out.hC _ HG2.out | (with_reducible refine Kd.C_alloc ?_ _) | (with_reducible refine Kd.C_drew ?_)))
    (case s2 => exact HE.out.hc)
    (case s3 => exact if_pos (by have := HC2.out; omega))
    rintro e w3 ⟨v, rfl, ho, hb⟩
    refine ⟨_, rfl, ?_⟩
    have HB3 := Aside0.mk (below_step (show Below w2.heap.size w2 _ by repeat (first | exact Below.refl _ _ | apply below_alloc | apply below_drew1)) hb)
    have HO3 := Aside0.mk (Kd.R_lower ho (show Below w2.heap.size w2 _ by repeat (first | exact Below.refl _ _ | apply below_alloc | apply below_drew1)).size)
    have HX3 := Aside0.mk (Kd.C_below (impl_PolyShares.newC w2.drew left) hb)
    clear ho hb
    refine hK.out _ _ (pw_cell_below HB3.out cT) (fun hHeld => ?_)
    clear hK K
    refine norm_ (a' := ?_) ?_ ?_
    rotate_left
    · show Act.put _ (some 31) _ = _
      simp only [Act.put, List.setIfInBounds_toArray, List.set_cons_zero, List.set_cons_succ, i64_w, i32_w]
      rfl
    refine one_ (i := 5) (N := some 34) #[true, true, true, true, true, true, false, false] rfl rfl (by kernel_rfl) (by decide) (fun K hK => ?_)
    refine Kd.R_append_rows_step (Kd.int .i64) (w0 := w2) w2.heap.size (by rfl) (.tmp 31) (.tmp 33) 29 3 (.int .i64 0) 8 rfl Try.underlying29 impl_PolyShares.info3 rfl (by decide) (by omega) v a [left] _ _ _ (fun _ => True) (fun _ => False) rfl rfl ?aO ?aR (fun _ _ h => h) (fun _ h => h.elim) ?aF ?aB ?aS ?aL ?_
    (case aR => exact HX3.out)
    (case aF => exact (fun _ _ => trivial))
    (case aO => exact HO3.out)
    (case aB => exact HB3.out)
    (case aS => exact (below_size HB3.out))
    (case aL => have := HC2.out; simp; omega)
    intro v1 w4 ho hb hg hat
    clear hg hat
    have HO4 := Aside0.mk ho
    have HB4 := Aside0.mk hb
    obtain ⟨A1, c1_, eo1⟩ := Kd.R_slice HO4.out
    subst eo1
    clear ho hb
    refine hK.out _ _ (pw_cell_below HB4.out cT) (fun hHeld => ?_)
    clear hK K
    refine norm_ (a' := ?_) ?_ ?_
    rotate_left
    · show Act.put _ (some 34) _ = _
      simp only [Act.put, List.setIfInBounds_toArray, List.set_cons_zero, List.set_cons_succ, i64_w, i32_w]
      rfl
    refine one_ (i := 6) (N := some 35) #[true, true, true, true, true, true, true, false] rfl rfl (by kernel_rfl) (by decide) (fun K hK => ?_)
    have hlt2 : Bm < w2.heap.size := Nat.lt_of_lt_of_le HE.out.hb HG2.out.size
    have HG4 := Aside0.mk (gb_trans HG2.out (impl_PolyShares.grown_of (row := some Bm) HB4.out))
    have cl := Aside0.mk (impl_PolyShares.tell (.slice A1 (a ++ [left]).length c1_) Bm m w4 ((HB4.out.block Bm hlt2).trans HM2.out))
    refine call_ 42 #[.slice A1 (a ++ [left]).length c1_, .pointer (some ⟨Bm, 0, none⟩)] (by rfl) rfl ?hrun ?_
    (case hrun => have he := enters_ Try.func42 (by kernel_rfl) rfl #[.slice A1 (a ++ [left]).length c1_, .pointer (some ⟨Bm, 0, none⟩)] w4; simp [execOp, resolve, Deferred.ofValue, invoke, Act.eval, he] at he ⊢; try exact he)
    refine cl.out.mono ?_
    rintro e w5 ⟨rfl, hg5, hn5⟩
    refine ⟨_, rfl, ?_⟩
    have HG5 := Aside0.mk (gb_trans HG4.out hg5)
    have HM5 := Aside0.mk hn5
    clear hg5 hn5
    refine hK.out _ _ (cell_of_one (HE.out.hF w5 HG5.out)) (fun hHeld => ?_)
    clear hK K
    refine norm_ (a' := ?_) ?_ ?_
    rotate_left
    · show Act.put _ (some 35) _ = _
      simp only [Act.put, List.setIfInBounds_toArray, List.set_cons_zero, List.set_cons_succ, i64_w, i32_w]
      rfl
    refine pure_ (i := 7) (N := some 7) (v := ?_) (a' := ?_) #[true, true, true, true, true, true, true, true] rfl rfl (by kernel_rfl) (fun _ _ _ h => h) (Or.inl ⟨by rfl, ?_⟩) ?_ ?_
    rotate_left
    · intro w'
      go_simp
      with_reducible rfl
    rotate_left
    · simp only [Act.put, List.setIfInBounds_toArray, List.set_cons_zero, List.set_cons_succ, i64_w, i32_w]
      rfl
    refine done_ (by kernel_rfl) ?_
    clear hHeld
    go_wp2
    (first | go_ret | go_ret2)
    subst hr
    exact ⟨by first | rfl | (simp; done), HG5.out, HM5.out⟩
set_option maxHeartbeats 4000000 in
set_option maxRecDepth 100000 in
theorem impl_PolyShares.clo_ploop (k1 : Nat) (ih : ∀ k', k' < k1 + 1 → ∀ n a left m r A c Bm Bn Bf Bt w, impl_PolyShares.Says k' n a left m r A c Bm Bn Bf Bt w) (n : Int) (a : List Int) (left m r : Int) (A : Option Addr) (c Bm Bn Bf Bt : Nat) (w : World)
    (hE : impl_PolyShares.Env A c a n Bm Bn Bf Bt w) (hM : w.heap[Bm]? = some (.cells #[.int .i64 m] 3 (0, 0))) (rest : Int) (hj : wrap64 (n - (a.length : Int)) = rest) (hp : 0 < (a.length : Int)) (h1 : rest ≠ 1) (hl : impl_PolyShares.ls k1 n a left rest (rd a ((a.length : Int) - 1)) m = some r) :
    Calls Try.prog 59 #[.slice A a.length c, .int .i64 left, .pointer (some ⟨Bn, 0, none⟩), .pointer (some ⟨Bf, 0, none⟩), .pointer (some ⟨Bt, 0, none⟩)] w fun e w' => e = .returned (.bool true) ∧ w.grownBy w' (some Bm) ∧ w'.heap[Bm]? = some (.cells #[.int .i64 r] 3 (0, 0)) := by
  have HE := Aside0.mk hE
  have HM2 := Aside0.mk hM
  have HG2 := Aside0.mk (gb_refl w (some Bm))
  have cN := cell_of_one (hE.hN w (gb_refl _ _))
  have hjw : IntKind.i64.wrap (n - (a.length : Int)) = rest := (i64_w _).trans hj
  have p1 : decide (0 < (a.length : Int)) = true := decide_eq_true hp
  have q1 : (rest == 1) = false := beq_eq_false_iff_ne.mpr h1
  have hmx := (hE.hC w (gb_refl _ _)).2.1
  have hw1 : IntKind.i64.wrap ((a.length : Int) - 1) = (a.length : Int) - 1 := by rw [i64_w]; unfold wrap64; omega
  have b0 : (0 ≤ (a.length : Int) - 1) = True := eq_true (by omega)
  have b1 : ((a.length : Int) - 1 < (a.length : Int)) = True := eq_true (by omega)
  obtain ⟨ad, eA, cA⟩ := Kd.at_int (hE.hC w (gb_refl _ _)) ((a.length : Int) - 1) (by omega) (by omega)
  subst eA
  rw [show ((a.length : Int) - 1).toNat = a.length - 1 by omega] at cA
  have IH := Aside0.mk ih
  have HL := Aside0.mk hl
  clear hl
  clear hE ih hM h1
  go_enter Try.func59, Try.ntmps59
  go_wp2
  go_loopg [10] k1 (fun kq v10 w' => ∃ (x m : Int), v10 = .int .i64 x ∧ Aside0 (impl_PolyShares.ls kq n a left rest x m = some r) ∧ Aside0 (kq ≤ k1) ∧ Aside0 (w.grownBy w' (some Bm)) ∧ Aside0 (w'.heap[Bm]? = some (.cells #[.int .i64 m] 3 (0, 0))))
  case atStart => exact ⟨_, _, (by first | rfl | (simp; done)), HL, ⟨Nat.le_refl _⟩, HG2, HM2⟩
  case round =>
    clear HL HG2 HM2
    obtain ⟨x, m, rfl, HH, HK1, HG2, HM2⟩ := hrel
    obtain ⟨w2, rfl⟩ : ∃ w2 : World, w2 = wr := ⟨_, rfl⟩
    cases gk with
    | zero => exact absurd HH.out (by simp [impl_PolyShares.ls])
    | succ k2 =>
      have H := HH.out
      clear HH
      simp only [impl_PolyShares.ls] at H
      obtain ⟨y, hy⟩ : ∃ y : Int, wrap64 (x * rest) = y := ⟨_, rfl⟩
      have hyw : IntKind.i64.wrap (x * rest) = y := (i64_w _).trans hy
      rw [hy] at H
      by_cases c1 : y ≤ left
      · rw [if_pos c1] at H
        have c1b : decide (y ≤ left) = true := decide_eq_true c1
        clear c1
        by_cases c2 : a.length < 1000000
        · rw [if_pos c2] at H
          obtain ⟨m2, hm2, H⟩ := Option.bind_eq_some_iff.mp H
          have Hm2 := Aside0.mk hm2
          have H' := Aside0.mk H
          have HC2 := Aside0.mk c2
          have cT := cell_of_one (HE.out.hT w2 HG2.out)
          clear H hm2 c2
          go_wp2
          refine start_ (n := 11) (S := fun w' => w'.cell? ⟨Bt, 0, none⟩ = some (.func (.func 59) #[] #[.pointer (some ⟨Bn, 0, none⟩), .pointer (some ⟨Bf, 0, none⟩), .pointer (some ⟨Bt, 0, none⟩)])) (ds := []) #[false, false, false, false, false, false, false, false, false, false, false] (by kernel_rfl) rfl rfl cT (fun hHeld => ?_)
          refine pure_ (i := 1) (N := some 45) (v := ?_) (a' := ?_) #[false, true, false, false, false, false, false, false, false, false, false] rfl rfl (by kernel_rfl) (fun _ _ _ h => h) (Or.inl ⟨by rfl, ?_⟩) ?_ ?_
          rotate_left
          · intro w'
            go_simp
            with_reducible rfl
          rotate_left
          · simp only [Act.put, List.setIfInBounds_toArray, List.set_cons_zero, List.set_cons_succ, i64_w, i32_w]
            rfl
          refine pure_ (i := 3) (N := some 47) (v := ?_) (a' := ?_) #[false, true, false, true, false, false, false, false, false, false, false] rfl rfl (by kernel_rfl) (fun _ _ _ h => h) (Or.inl ⟨by rfl, ?_⟩) ?_ ?_
          rotate_left
          · intro w'
            go_simp
            with_reducible rfl
          rotate_left
          · simp only [Act.put, List.setIfInBounds_toArray, List.set_cons_zero, List.set_cons_succ, i64_w, i32_w]
            rfl
          refine pure_ (i := 6) (N := some 50) (v := ?_) (a' := ?_) #[false, true, false, true, false, false, true, false, false, false, false] rfl rfl (by kernel_rfl) (fun _ _ _ h => h) (Or.inl ⟨by rfl, ?_⟩) ?_ ?_
          rotate_left
          · intro w'
            go_simp
            with_reducible rfl
          rotate_left
          · simp only [Act.put, List.setIfInBounds_toArray, List.set_cons_zero, List.set_cons_succ, i64_w, i32_w]
            rfl
          refine pure_ (i := 7) (N := some 51) (v := ?_) (a' := ?_) #[false, true, false, true, false, false, true, true, false, false, false] rfl rfl (by kernel_rfl) (fun _ _ _ h => h) (Or.inl ⟨by rfl, ?_⟩) ?_ ?_
          rotate_left
          · intro w'
            go_simp
            with_reducible rfl
          rotate_left
          · simp only [Act.put, List.setIfInBounds_toArray, List.set_cons_zero, List.set_cons_succ, i64_w, i32_w]
            rfl
          refine pure_ (i := 8) (N := some 52) (v := ?_) (a' := ?_) #[false, true, false, true, false, false, true, true, true, false, false] rfl rfl (by kernel_rfl) (fun _ _ _ h => h) (Or.inl ⟨by rfl, ?_⟩) ?_ ?_
          rotate_left
          · intro w'
            go_simp
            with_reducible rfl
          rotate_left
          · simp only [Act.put, List.setIfInBounds_toArray, List.set_cons_zero, List.set_cons_succ, i64_w, i32_w]
            rfl
          refine take_ (i := 0) (N := some 44) (v := ?_) (a' := ?_) #[true, true, false, true, false, false, true, true, true, false, false] rfl rfl (by kernel_rfl) (fun _ _ _ h => h) (Or.inl ⟨by rfl, ?_⟩) hHeld ?_ ?_
          rotate_left
          · intro w' s0
            go_simp
            with_reducible rfl
          rotate_left
          · simp only [Act.put, List.setIfInBounds_toArray, List.set_cons_zero, List.set_cons_succ, i64_w, i32_w]
            rfl
          refine two_ (i := 2) (j := 4) (Ni := some 46) (Nj := some 48) #[true, true, true, true, false, false, true, true, true, false, false] #[true, true, false, true, true, false, true, true, true, false, false] rfl rfl rfl rfl (by kernel_rfl) (by decide) (by decide) (fun K hK => ?_) (fun K hK => ?_)
          · refine goes_ Try.func55 (by kernel_rfl) rfl #[.slice (some ad) a.length c] (by rfl) rfl rfl (by (try simp only [List.map_toArray, List.map_cons, List.map_nil]); first | done | rfl) ?_
            refine (slices_Clone_int_int.calls (some ad) c a a _ ?s1 ?s2 ?s3).mono ?_
            (case s1 => repeat (first | exact HE.out.hC _ HG2.out | (with_reducible refine Kd.C_alloc ?_ _) | (with_reducible refine Kd.C_drew ?_)))
            (case s2 => exact HE.out.hc)
            (case s3 => exact if_pos (by have := HC2.out; omega))
            rintro e w3 ⟨v, rfl, ho, hb⟩
            refine ⟨_, rfl, ?_⟩
            have HB3 := Aside0.mk (below_step (show Below w2.heap.size w2 _ by repeat (first | exact Below.refl _ _ | apply below_alloc | apply below_drew1)) hb)
            have HO3 := Aside0.mk (Kd.R_lower ho (show Below w2.heap.size w2 _ by repeat (first | exact Below.refl _ _ | apply below_alloc | apply below_drew1)).size)
            clear ho hb
            refine hK.out _ _ (pw_cell_below HB3.out cT) (fun hHeld => ?_)
            clear hK K
            refine norm_ (a' := ?_) ?_ ?_
            rotate_left
            · show Act.put _ (some 46) _ = _
              simp only [Act.put, List.setIfInBounds_toArray, List.set_cons_zero, List.set_cons_succ, i64_w, i32_w]
              rfl
            refine one_ (i := 4) (N := some 48) #[true, true, true, true, true, false, true, true, true, false, false] rfl rfl (by kernel_rfl) (by decide) (fun K hK => ?_)
            refine value_ (w1 := ?_) (v := ?_) (by rfl) rfl ?_ ?_
            rotate_left 2
            · go_simp
              constructor
              · rfl
              · rfl
            refine hK.out _ _ (pw_cell_below (below_alloc (Below.refl _ _) _) (pw_cell_below (Below.refl _ _) (pw_cell_below HB3.out cT))) (fun hHeld => ?_)
            clear hK K
            refine norm_ (a' := ?_) ?_ ?_
            rotate_left
            · show Act.put _ (some 48) _ = _
              simp only [Act.put, List.setIfInBounds_toArray, List.set_cons_zero, List.set_cons_succ, i64_w, i32_w]
              rfl
            refine one_ (i := 5) (N := some 49) #[true, true, true, true, true, true, true, true, true, false, false] rfl rfl (by kernel_rfl) (by decide) (fun K hK => ?_)
            refine Kd.R_append_rows_step (Kd.int .i64) (w0 := w2) w2.heap.size (by rfl) (.tmp 46) (.tmp 48) 29 3 (.int .i64 0) 8 rfl Try.underlying29 impl_PolyShares.info3 rfl (by decide) (by omega) v a [x] _ _ _ (fun _ => True) (fun _ => False) rfl rfl ?aO ?aR (fun _ _ h => h) (fun _ h => h.elim) ?aF ?aB ?aS ?aL ?_
            (case aR => exact (impl_PolyShares.newC w3 x))
            (case aF => exact (fun _ _ => trivial))
            (case aO => exact (Kd.R_alloc HO3.out _))
            (case aB => exact (below_alloc HB3.out _))
            (case aS => exact (below_size (below_alloc HB3.out _)))
            (case aL => have := HC2.out; simp; omega)
            intro v1 w4 ho hb hg hat
            clear hg hat
            have HO4 := Aside0.mk ho
            have HB4 := Aside0.mk hb
            obtain ⟨A1, c1_, eo1⟩ := Kd.R_slice HO4.out
            subst eo1
            clear ho hb
            refine hK.out _ _ (pw_cell_below HB4.out cT) (fun hHeld => ?_)
            clear hK K
            refine norm_ (a' := ?_) ?_ ?_
            rotate_left
            · show Act.put _ (some 49) _ = _
              simp only [Act.put, List.setIfInBounds_toArray, List.set_cons_zero, List.set_cons_succ, i64_w, i32_w]
              rfl
            refine one_ (i := 9) (N := some 53) #[true, true, true, true, true, true, true, true, true, true, false] rfl rfl (by kernel_rfl) (by decide) (fun K hK => ?_)
            have hlt2 : Bm < w2.heap.size := Nat.lt_of_lt_of_le HE.out.hb HG2.out.size
            have HG4 := Aside0.mk (gb_trans HG2.out (impl_PolyShares.grown_of (row := some Bm) HB4.out))
            have ENV := Aside0.mk (show impl_PolyShares.Env A1 c1_ (a ++ [x]) n Bm Bn Bf Bt w4 from ⟨fun W hW => (Kd.R_reads' (Kd.R_grown1 HO4.out rfl hW (fun e => by have := Kd.R_base HO4.out Bm e.symm; omega))).2.2, fun W hW => HE.out.hN W (gb_trans HG4.out hW), fun W hW => HE.out.hF W (gb_trans HG4.out hW), fun W hW => HE.out.hT W (gb_trans HG4.out hW), (Kd.R_reads' HO4.out).2.1, Nat.lt_of_lt_of_le hlt2 HB4.out.size⟩)
            have cl := Aside0.mk (IH.out k2 (by have := HK1.out; omega) n (a ++ [x]) (wrap64 (left - x)) m m2 A1 c1_ Bm Bn Bf Bt w4 ENV.out ((HB4.out.block Bm hlt2).trans HM2.out) Hm2.out)
            refine call_ 59 #[.slice A1 (a ++ [x]).length c1_, .int .i64 (wrap64 (left - x)), .pointer (some ⟨Bn, 0, none⟩), .pointer (some ⟨Bf, 0, none⟩), .pointer (some ⟨Bt, 0, none⟩)] (by rfl) rfl ?hrun ?_
            (case hrun => have he := enters_ Try.func59 (by kernel_rfl) rfl #[.slice A1 (a ++ [x]).length c1_, .int .i64 (wrap64 (left - x)), .pointer (some ⟨Bn, 0, none⟩), .pointer (some ⟨Bf, 0, none⟩), .pointer (some ⟨Bt, 0, none⟩)] w4; simp [execOp, resolve, Deferred.ofValue, invoke, Act.eval, he] at he ⊢; try exact he)
            refine cl.out.mono ?_
            rintro e w5 ⟨rfl, hg5, hn5⟩
            refine ⟨_, rfl, ?_⟩
            have HG5 := Aside0.mk (gb_trans HG4.out hg5)
            have HM5 := Aside0.mk hn5
            clear hg5 hn5
            refine hK.out _ _ (cell_of_one (HE.out.hT w5 HG5.out)) (fun hHeld => ?_)
            clear hK K
            refine norm_ (a' := ?_) ?_ ?_
            rotate_left
            · show Act.put _ (some 53) _ = _
              simp only [Act.put, List.setIfInBounds_toArray, List.set_cons_zero, List.set_cons_succ, i64_w, i32_w]
              rfl
            refine pure_ (i := 10) (N := some 54) (v := ?_) (a' := ?_) #[true, true, true, true, true, true, true, true, true, true, true] rfl rfl (by kernel_rfl) (fun _ _ _ h => h) (Or.inl ⟨by rfl, ?_⟩) ?_ ?_
            rotate_left
            · intro w'
              go_simp
              with_reducible rfl
            rotate_left
            · simp only [Act.put, List.setIfInBounds_toArray, List.set_cons_zero, List.set_cons_succ, i64_w, i32_w]
              rfl
            refine done_ (by kernel_rfl) ?_
            clear hHeld
            clear cl ENV
            go_wp2
            go_roundg k2
            case measure => have := HK1.out; omega
            case rel => exact ⟨_, _, (by first | rfl | (simp; done)), H', ⟨by have := HK1.out; omega⟩, HG5, HM5⟩
          · refine value_ (w1 := ?_) (v := ?_) (by rfl) rfl ?_ ?_
            rotate_left 2
            · go_simp
              constructor
              · rfl
              · rfl
            refine hK.out _ _ (pw_cell_below (below_alloc (Below.refl _ _) _) (pw_cell_below (Below.refl _ _) cT)) (fun hHeld => ?_)
            clear hK K
            refine norm_ (a' := ?_) ?_ ?_
            rotate_left
            · show Act.put _ (some 48) _ = _
              simp only [Act.put, List.setIfInBounds_toArray, List.set_cons_zero, List.set_cons_succ, i64_w, i32_w]
              rfl
            refine one_ (i := 2) (N := some 46) #[true, true, true, true, true, false, true, true, true, false, false] rfl rfl (by kernel_rfl) (by decide) (fun K hK => ?_)
            refine goes_ Try.func55 (by kernel_rfl) rfl #[.slice (some ad) a.length c] (by rfl) rfl rfl (by (try simp only [List.map_toArray, List.map_cons, List.map_nil]); first | done | rfl) ?_
            refine (slices_Clone_int_int.calls (some ad) c a a _ ?s1 ?s2 ?s3).mono ?_
            (case s1 => repeat (first | exact HE.out.hC _ HG2.out | (with_reducible refine Kd.C_alloc ?_ _) | (with_reducible refine Kd.C_drew ?_)))
            (case s2 => exact HE.out.hc)
            (case s3 => exact if_pos (by have := HC2.out; omega))
            rintro e w3 ⟨v, rfl, ho, hb⟩
            refine ⟨_, rfl, ?_⟩
            have HB3 := Aside0.mk (below_step (show Below w2.heap.size w2 _ by repeat (first | exact Below.refl _ _ | apply below_alloc | apply below_drew1)) hb)
            have HO3 := Aside0.mk (Kd.R_lower ho (show Below w2.heap.size w2 _ by repeat (first | exact Below.refl _ _ | apply below_alloc | apply below_drew1)).size)
            have HX3 := Aside0.mk (Kd.C_below (impl_PolyShares.newC w2.drew x) hb)
            clear ho hb
            refine hK.out _ _ (pw_cell_below HB3.out cT) (fun hHeld => ?_)
            clear hK K
            refine norm_ (a' := ?_) ?_ ?_
            rotate_left
            · show Act.put _ (some 46) _ = _
              simp only [Act.put, List.setIfInBounds_toArray, List.set_cons_zero, List.set_cons_succ, i64_w, i32_w]
              rfl
            refine one_ (i := 5) (N := some 49) #[true, true, true, true, true, true, true, true, true, false, false] rfl rfl (by kernel_rfl) (by decide) (fun K hK => ?_)
            refine Kd.R_append_rows_step (Kd.int .i64) (w0 := w2) w2.heap.size (by rfl) (.tmp 46) (.tmp 48) 29 3 (.int .i64 0) 8 rfl Try.underlying29 impl_PolyShares.info3 rfl (by decide) (by omega) v a [x] _ _ _ (fun _ => True) (fun _ => False) rfl rfl ?aO ?aR (fun _ _ h => h) (fun _ h => h.elim) ?aF ?aB ?aS ?aL ?_
            (case aR => exact HX3.out)
            (case aF => exact (fun _ _ => trivial))
            (case aO => exact HO3.out)
            (case aB => exact HB3.out)
            (case aS => exact (below_size HB3.out))
            (case aL => have := HC2.out; simp; omega)
            intro v1 w4 ho hb hg hat
            clear hg hat
            have HO4 := Aside0.mk ho
            have HB4 := Aside0.mk hb
            obtain ⟨A1, c1_, eo1⟩ := Kd.R_slice HO4.out
            subst eo1
            clear ho hb
            refine hK.out _ _ (pw_cell_below HB4.out cT) (fun hHeld => ?_)
            clear hK K
            refine norm_ (a' := ?_) ?_ ?_
            rotate_left
            · show Act.put _ (some 49) _ = _
              simp only [Act.put, List.setIfInBounds_toArray, List.set_cons_zero, List.set_cons_succ, i64_w, i32_w]
              rfl
            refine one_ (i := 9) (N := some 53) #[true, true, true, true, true, true, true, true, true, true, false] rfl rfl (by kernel_rfl) (by decide) (fun K hK => ?_)
            have hlt2 : Bm < w2.heap.size := Nat.lt_of_lt_of_le HE.out.hb HG2.out.size
            have HG4 := Aside0.mk (gb_trans HG2.out (impl_PolyShares.grown_of (row := some Bm) HB4.out))
            have ENV := Aside0.mk (show impl_PolyShares.Env A1 c1_ (a ++ [x]) n Bm Bn Bf Bt w4 from ⟨fun W hW => (Kd.R_reads' (Kd.R_grown1 HO4.out rfl hW (fun e => by have := Kd.R_base HO4.out Bm e.symm; omega))).2.2, fun W hW => HE.out.hN W (gb_trans HG4.out hW), fun W hW => HE.out.hF W (gb_trans HG4.out hW), fun W hW => HE.out.hT W (gb_trans HG4.out hW), (Kd.R_reads' HO4.out).2.1, Nat.lt_of_lt_of_le hlt2 HB4.out.size⟩)
            have cl := Aside0.mk (IH.out k2 (by have := HK1.out; omega) n (a ++ [x]) (wrap64 (left - x)) m m2 A1 c1_ Bm Bn Bf Bt w4 ENV.out ((HB4.out.block Bm hlt2).trans HM2.out) Hm2.out)
            refine call_ 59 #[.slice A1 (a ++ [x]).length c1_, .int .i64 (wrap64 (left - x)), .pointer (some ⟨Bn, 0, none⟩), .pointer (some ⟨Bf, 0, none⟩), .pointer (some ⟨Bt, 0, none⟩)] (by rfl) rfl ?hrun ?_
            (case hrun => have he := enters_ Try.func59 (by kernel_rfl) rfl #[.slice A1 (a ++ [x]).length c1_, .int .i64 (wrap64 (left - x)), .pointer (some ⟨Bn, 0, none⟩), .pointer (some ⟨Bf, 0, none⟩), .pointer (some ⟨Bt, 0, none⟩)] w4; simp [execOp, resolve, Deferred.ofValue, invoke, Act.eval, he] at he ⊢; try exact he)
            refine cl.out.mono ?_
            rintro e w5 ⟨rfl, hg5, hn5⟩
            refine ⟨_, rfl, ?_⟩
            have HG5 := Aside0.mk (gb_trans HG4.out hg5)
            have HM5 := Aside0.mk hn5
            clear hg5 hn5
            refine hK.out _ _ (cell_of_one (HE.out.hT w5 HG5.out)) (fun hHeld => ?_)
            clear hK K
            refine norm_ (a' := ?_) ?_ ?_
            rotate_left
            · show Act.put _ (some 53) _ = _
              simp only [Act.put, List.setIfInBounds_toArray, List.set_cons_zero, List.set_cons_succ, i64_w, i32_w]
              rfl
            refine pure_ (i := 10) (N := some 54) (v := ?_) (a' := ?_) #[true, true, true, true, true, true, true, true, true, true, true] rfl rfl (by kernel_rfl) (fun _ _ _ h => h) (Or.inl ⟨by rfl, ?_⟩) ?_ ?_
            rotate_left
            · intro w'
              go_simp
              with_reducible rfl
            rotate_left
            · simp only [Act.put, List.setIfInBounds_toArray, List.set_cons_zero, List.set_cons_succ, i64_w, i32_w]
              rfl
            refine done_ (by kernel_rfl) ?_
            clear hHeld
            clear cl ENV
            go_wp2
            go_roundg k2
            case measure => have := HK1.out; omega
            case rel => exact ⟨_, _, (by first | rfl | (simp; done)), H', ⟨by have := HK1.out; omega⟩, HG5, HM5⟩
        · rw [if_neg c2] at H
          exact absurd H (by simp)
      · rw [if_neg c1] at H
        have c1b : decide (y ≤ left) = false := decide_eq_false c1
        clear c1
        obtain rfl := Option.some.inj H
        go_wp2
        (first | go_ret | go_ret2 | go_end0)
        exact ⟨by first | rfl | (simp; done), HG2.out, HM2.out⟩
theorem impl_PolyShares.clo (k : Nat) : ∀ n a left m r A c Bm Bn Bf Bt w, impl_PolyShares.Says k n a left m r A c Bm Bn Bf Bt w := by
  induction k using Nat.strongRecOn with
  | _ k ih =>
    intro n a left m r A c Bm Bn Bf Bt w hE hM h
    cases k with
    | zero => exact absurd h (by simp [impl_PolyShares.sh])
    | succ k1 =>
      simp only [impl_PolyShares.sh] at h
      by_cases hp : 0 < (a.length : Int)
      · rw [if_pos hp] at h
        by_cases h1 : wrap64 (n - (a.length : Int)) = 1
        · rw [if_pos h1] at h
          by_cases hl : left < rd a ((a.length : Int) - 1)
          · rw [if_pos hl] at h
            exact impl_PolyShares.clo_pless k1 ih n a left m r A c Bm Bn Bf Bt w hE hM _ rfl hp h1 hl (Option.some.inj h)
          · rw [if_neg hl] at h
            by_cases hn : a.length < 1000000
            · rw [if_pos hn] at h
              exact impl_PolyShares.clo_ptell k1 ih n a left m r A c Bm Bn Bf Bt w hE hM _ rfl hp h1 hl hn (Option.some.inj h)
            · rw [if_neg hn] at h
              cases h
        · rw [if_neg h1] at h
          exact impl_PolyShares.clo_ploop k1 ih n a left m r A c Bm Bn Bf Bt w hE hM _ rfl hp h1 h
      · rw [if_neg hp] at h
        by_cases h1 : wrap64 (n - (a.length : Int)) = 1
        · rw [if_pos h1] at h
          by_cases hl : left < 1
          · rw [if_pos hl] at h
            exact impl_PolyShares.clo_zless k1 ih n a left m r A c Bm Bn Bf Bt w hE hM _ rfl hp h1 hl (Option.some.inj h)
          · rw [if_neg hl] at h
            by_cases hn : a.length < 1000000
            · rw [if_pos hn] at h
              exact impl_PolyShares.clo_ztell k1 ih n a left m r A c Bm Bn Bf Bt w hE hM _ rfl hp h1 hl hn (Option.some.inj h)
            · rw [if_neg hn] at h
              cases h
        · rw [if_neg h1] at h
          exact impl_PolyShares.clo_zloop k1 ih n a left m r A c Bm Bn Bf Bt w hE hM _ rfl hp h1 h
set_option maxHeartbeats 4000000 in
set_option maxRecDepth 100000 in
theorem impl_PolyShares.shares (k : Nat) (n p m r : Int) (Bm : Nat) (w : World) (hM : w.heap[Bm]? = some (.cells #[.int .i64 m] 3 (0, 0))) (h : impl_PolyShares.sh k n [] p m = some r) :
    Calls Try.prog 41 #[.int .i64 n, .int .i64 p, .func (.func 42) #[] #[.pointer (some ⟨Bm, 0, none⟩)]] w fun e w' => e = .returned (.tuple #[]) ∧ w.grownBy w' (some Bm) ∧ w'.heap[Bm]? = some (.cells #[.int .i64 r] 3 (0, 0)) := by
  have HB := Aside0.mk (Below.refl w.heap.size w)
  have hlt := gb_lt hM
  have W3b := Aside0.mk (show (((w.alloc (.cells #[.int .i64 n] 3 (0, 0))).alloc (.cells #[.func (.func 42) #[] #[.pointer (some ⟨Bm, 0, none⟩)]] 33 (0, 0))).alloc (.cells #[.nilFunc] 52 (0, 0))).heap[w.heap.size + 1 + 1]? = some (.cells #[.nilFunc] 52 (0, 0)) from blk_new _ _ (by show ((w.heap.push _).push _).size = _; rw [Array.size_push, Array.size_push]))
  have W3c := cell_of_one W3b.out
  have W3f := free_of_one W3b.out
  obtain ⟨WW, hWW⟩ : ∃ WW : World, WW = (((w.alloc (.cells #[.int .i64 n] 3 (0, 0))).alloc (.cells #[.func (.func 42) #[] #[.pointer (some ⟨Bm, 0, none⟩)]] 33 (0, 0))).alloc (.cells #[.func (.func 59) #[] #[.pointer (some ⟨w.heap.size, 0, none⟩), .pointer (some ⟨w.heap.size + 1, 0, none⟩), .pointer (some ⟨w.heap.size + 1 + 1, 0, none⟩)]] 52 (0, 0))) := ⟨_, rfl⟩
  have hs : WW.heap.size = w.heap.size + 3 := by rw [hWW]; show (((w.heap.push _).push _).push _).size = _; rw [Array.size_push, Array.size_push, Array.size_push]
  have b1 : WW.heap[w.heap.size]? = some (.cells #[.int .i64 n] 3 (0, 0)) := by rw [hWW]; show (((w.heap.push _).push _).push _)[_]? = _; simp only [Array.getElem?_push, Array.size_push]; rw [if_neg (by omega), if_neg (by omega), if_pos trivial]
  have b2 : WW.heap[w.heap.size + 1]? = some (.cells #[.func (.func 42) #[] #[.pointer (some ⟨Bm, 0, none⟩)]] 33 (0, 0)) := by rw [hWW]; show (((w.heap.push _).push _).push _)[_]? = _; simp only [Array.getElem?_push, Array.size_push]; rw [if_neg (by omega), if_pos trivial]
  have b3 : WW.heap[w.heap.size + 1 + 1]? = some (.cells #[.func (.func 59) #[] #[.pointer (some ⟨w.heap.size, 0, none⟩), .pointer (some ⟨w.heap.size + 1, 0, none⟩), .pointer (some ⟨w.heap.size + 1 + 1, 0, none⟩)]] 52 (0, 0)) := by rw [hWW]; show (((w.heap.push _).push _).push _)[_]? = _; simp only [Array.getElem?_push, Array.size_push]; rw [if_pos trivial]
  have hBW : Below w.heap.size w WW := by rw [hWW]; repeat (first | exact HB.out | apply below_alloc)
  have ENV : impl_PolyShares.Env none 0 [] n Bm w.heap.size (w.heap.size + 1) (w.heap.size + 1 + 1) WW :=
    ⟨fun W _ => Kd.C_nil _ W, fun W g => (g.block _ (by omega) (fun e => by injection e with e; omega)).trans b1, fun W g => (g.block _ (by omega) (fun e => by injection e with e; omega)).trans b2, fun W g => (g.block _ (by omega) (fun e => by injection e with e; omega)).trans b3, Nat.le_refl _, by omega⟩
  have CL := impl_PolyShares.clo k n [] p m r none 0 Bm w.heap.size (w.heap.size + 1) (w.heap.size + 1 + 1) WW ENV ((hBW.block Bm hlt).trans hM) h
  have CL2 := Aside0.mk (CL.mono (R' := fun e w' => e = .returned (.bool true) ∧ w.grownBy w' (some Bm) ∧ w'.heap[Bm]? = some (.cells #[.int .i64 r] 3 (0, 0))) (by
    rintro e w' ⟨he, hg, hn⟩
    exact ⟨he, gb_trans (impl_PolyShares.grown_of hBW) hg, hn⟩))
  clear CL ENV b1 b2 b3 hs hBW hM h hlt
  subst hWW
  go_enter Try.func41, Try.ntmps41
  go_wp2_with (go_at_call 59; refine CL2.out.mono ?_; rintro e w4 ⟨rfl, hg, hn⟩; have HG4 := Aside0.mk hg; have HN4 := Aside0.mk hn; clear hg hn)
  (first | go_end0 | go_ret | go_ret2)
  exact ⟨by first | rfl | (simp; done), HG4.out, HN4.out⟩
def impl_PolyShares.f (k : Nat) (n p : Int) : Option (Int × Bool) := if n < 1 then some (0, false) else (if n > 6 then some (0, false) else (if p < 0 then some (0, false) else (if p > 30 then some (0, false) else ((impl_PolyShares.sh k n [] p 0).bind fun m => some (m, true)))))
theorem impl_PolyShares.mono : ∀ a0 a1 k, LeO (impl_PolyShares.f k a0 a1) (impl_PolyShares.f (k + 1) a0 a1) := by
  intro a0 a1 k
  unfold impl_PolyShares.f
  exact LeO.ite (LeO.refl _) (LeO.ite (LeO.refl _) (LeO.ite (LeO.refl _) (LeO.ite (LeO.refl _) (LeO.bind ((impl_PolyShares.mono_l k).1 _ _ _ _) (fun _ => LeO.refl _)))))
set_option maxHeartbeats 4000000 in
set_option maxRecDepth 100000 in
theorem impl_PolyShares.calls (k : Nat) (n p : Int) (r1 : Int) (r2 : Bool) (w : World) (h : impl_PolyShares.f k n p = some (r1, r2)) :
    Calls Try.prog 16 #[.int .i64 n, .int .i64 p] w fun e w' => e = .returned (.tuple #[.int .i64 r1, .bool r2]) ∧ Below w.heap.size w w' := by
  have HB := Aside0.mk (Below.refl w.heap.size w)
  unfold impl_PolyShares.f at h
  by_cases c1 : n < 1
  · rw [if_pos c1] at h
    simp only [Option.some.injEq, Prod.mk.injEq] at h
    obtain ⟨rfl, rfl⟩ := h
    have c1b := decide_eq_true c1
    go_enter Try.func16, Try.ntmps16
    go_wp2
    go_ret2
    exact ⟨by first | rfl | (simp; done), by repeat (first | exact HB.out | apply below_alloc | apply pw_below_drewN | apply below_drew1)⟩
  · rw [if_neg c1] at h
    have c1b := decide_eq_false c1
    by_cases c2 : n > 6
    · rw [if_pos c2] at h
      simp only [Option.some.injEq, Prod.mk.injEq] at h
      obtain ⟨rfl, rfl⟩ := h
      have c2b := decide_eq_true c2
      go_enter Try.func16, Try.ntmps16
      go_wp2
      go_ret2
      exact ⟨by first | rfl | (simp; done), by repeat (first | exact HB.out | apply below_alloc | apply pw_below_drewN | apply below_drew1)⟩
    · rw [if_neg c2] at h
      have c2b := decide_eq_false c2
      by_cases c3 : p < 0
      · rw [if_pos c3] at h
        simp only [Option.some.injEq, Prod.mk.injEq] at h
        obtain ⟨rfl, rfl⟩ := h
        have c3b := decide_eq_true c3
        go_enter Try.func16, Try.ntmps16
        go_wp2
        go_ret2
        exact ⟨by first | rfl | (simp; done), by repeat (first | exact HB.out | apply below_alloc | apply pw_below_drewN | apply below_drew1)⟩
      · rw [if_neg c3] at h
        have c3b := decide_eq_false c3
        by_cases c4 : p > 30
        · rw [if_pos c4] at h
          simp only [Option.some.injEq, Prod.mk.injEq] at h
          obtain ⟨rfl, rfl⟩ := h
          have c4b := decide_eq_true c4
          go_enter Try.func16, Try.ntmps16
          go_wp2
          go_ret2
          exact ⟨by first | rfl | (simp; done), by repeat (first | exact HB.out | apply below_alloc | apply pw_below_drewN | apply below_drew1)⟩
        · rw [if_neg c4] at h
          have c4b := decide_eq_false c4
          obtain ⟨m, hm, h⟩ := Option.bind_eq_some_iff.mp h
          simp only [Option.some.injEq, Prod.mk.injEq] at h
          obtain ⟨rfl, rfl⟩ := h
          have Hm := Aside0.mk hm
          clear hm
          go_enter Try.func16, Try.ntmps16
          go_wp2_with (go_at_call 41; refine (impl_PolyShares.shares k n p 0 m w.heap.size _ ?hM Hm.out).mono ?_; (case hM => exact blk_new _ _ rfl); rintro e w4 ⟨rfl, hg, hn⟩; have cN := cell_of_one hn; have HB2 := Aside0.mk (pw_below_grown (show Below w.heap.size w _ by repeat (first | exact HB.out | apply below_alloc | apply pw_below_drewN)) _ (by simp) hg (fun k_ e_ => by injection e_ with e_; omega)); clear hg hn)
          go_ret2
          exact ⟨by first | rfl | (simp; done), by repeat (first | exact HB2.out | apply below_alloc | apply pw_below_drewN | apply below_drew1)⟩

end Go.Proofs.Ytbcacnofgmcdcaa.QFnPolyShares
