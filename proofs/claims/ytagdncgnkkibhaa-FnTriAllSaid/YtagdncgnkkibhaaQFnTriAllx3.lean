-- Written by a program of this session (wip/myprint.py, over the kit's print) for the law FnTriAll.
import Derived.Test.YtagdncgnkkibhaaQFnTriAllx0
import Derived.Test.YtagdncgnkkibhaaQFnTriAllx1
import Derived.Test.YtagdncgnkkibhaaQFnTriAllx2
namespace Go.Proofs.Ytagdncgnkkibhaa.QFnTriAll
open Go.RowKit Go.Proofs.YtagdncgnkkibhaaW.PrintWords Go.Proofs.YtagdncgnkkibhaaW.PrintLast Go.Proofs.YtagdncgnkkibhaaW.PrintMore
attribute [local go_sem] max2_int min2_int max_two min_two max_three min_three max_four min_four   -- for this text's walks alone
set_option linter.unusedVariables false
set_option linter.unusedSimpArgs false

/-! ### laws_FnTriAll: function 3 -/
mutual
def laws_FnTriAll.j0 : Nat → Int → List (List Int) → Bool → List (List Int) → Bool → Bool → Option (Bool)
  | 0, _, _, _, _, _, _ => none
  | k + 1, x3, x4, x5, x6, x7, x37 => if x37 = true then (if (x5 == x7) = true then ((laws_sameRows.f k x4 x6).bind fun t164 => (some t164)) else (some false)) else (laws_FnTriAll.l0 k x3 x4 0)
def laws_FnTriAll.l0 : Nat → Int → List (List Int) → Int → Option (Bool)
  | 0, _, _, _ => none
  | k + 1, x3, x4, x8 => if x8 < (x4.length : Int) then (if 0 ≤ x8 then (if ((rd_L2 x4 x8).length : Int) = 3 then ((laws_total.f k (rd_L2 x4 x8)).bind fun t166 => (if t166 = x3 then (if 0 < ((rd_L2 x4 x8).length : Int) then (if 1 < ((rd_L2 x4 x8).length : Int) then (if (rd (rd_L2 x4 x8) 0) > (rd (rd_L2 x4 x8) 1) then (some false) else (if 2 < ((rd_L2 x4 x8).length : Int) then (if (rd (rd_L2 x4 x8) 1) > (rd (rd_L2 x4 x8) 2) then (some false) else ((impl_StickThree.f k (rd (rd_L2 x4 x8) 0) (rd (rd_L2 x4 x8) 1) (rd (rd_L2 x4 x8) 2)).bind fun t174 => (if t174 = true then (if x8 > 0 then (if 0 ≤ (wrap64 (x8 - 1)) then (if (wrap64 (x8 - 1)) < (x4.length : Int) then (if 0 < ((rd_L2 x4 (wrap64 (x8 - 1))).length : Int) then (if (rd (rd_L2 x4 x8) 0) < (rd (rd_L2 x4 (wrap64 (x8 - 1))) 0) then (some false) else (if (rd (rd_L2 x4 x8) 0) = (rd (rd_L2 x4 (wrap64 (x8 - 1))) 0) then (if 1 < ((rd_L2 x4 (wrap64 (x8 - 1))).length : Int) then (if (rd (rd_L2 x4 x8) 1) ≤ (rd (rd_L2 x4 (wrap64 (x8 - 1))) 1) then (some false) else (laws_FnTriAll.l0 k x3 x4 (wrap64 (x8 + 1)))) else (none)) else (laws_FnTriAll.l0 k x3 x4 (wrap64 (x8 + 1))))) else (none)) else (none)) else (none)) else (laws_FnTriAll.l0 k x3 x4 (wrap64 (x8 + 1)))) else (some false)))) else (none))) else (none)) else (none)) else (some false))) else (some false)) else (none)) else (some true)
end
def laws_FnTriAll.f (k : Nat) (l0 : List Int) : Option (Bool) := if (l0.length : Int) > 1048576 then (some true) else ((spec_DrawTriAll.f k l0).bind fun t154 => ((impl_TriAll.f k t154).bind fun bt155 => ((spec_TriAll.f k t154).bind fun bt159 => (if (bt155.2 == bt159.2) = true then ((laws_sameRows.f k bt155.1 bt159.1).bind fun t163 => (if t163 = true then (laws_FnTriAll.j0 k t154 bt155.1 bt155.2 bt159.1 bt159.2 (!bt155.2)) else (laws_FnTriAll.j0 k t154 bt155.1 bt155.2 bt159.1 bt159.2 true))) else (laws_FnTriAll.j0 k t154 bt155.1 bt155.2 bt159.1 bt159.2 true)))))
theorem laws_FnTriAll.mono_l : ∀ k, (∀ y0 y1 y2 y3 y4 y5, LeO (laws_FnTriAll.j0 k y0 y1 y2 y3 y4 y5) (laws_FnTriAll.j0 (k + 1) y0 y1 y2 y3 y4 y5)) ∧ (∀ y0 y1 y2, LeO (laws_FnTriAll.l0 k y0 y1 y2) (laws_FnTriAll.l0 (k + 1) y0 y1 y2))
  | 0 => ⟨fun _ _ _ _ _ _ r h => by simp [laws_FnTriAll.j0] at h, fun _ _ _ r h => by simp [laws_FnTriAll.l0] at h⟩
  | k + 1 => by
    obtain ⟨ih0, ih1⟩ := laws_FnTriAll.mono_l k
    refine ⟨?_, ?_⟩
    · intro y0 y1 y2 y3 y4 y5
      unfold laws_FnTriAll.j0
      repeat' first
      | (with_reducible exact ih0 _ _ _ _ _ _)
      | (with_reducible exact ih1 _ _ _)
      | (with_reducible exact impl_StickThree.mono _ _ _ _)
      | (with_reducible exact impl_TriAll.mono _ _)
      | (with_reducible exact laws_sameRows.mono _ _ _)
      | (with_reducible exact laws_total.mono _ _)
      | (with_reducible exact spec_DrawTriAll.mono _ _)
      | (with_reducible exact spec_TriAll.mono _ _)
      | (with_reducible exact LeO.refl _)
      | (with_reducible exact LeO.none _)
      | (with_reducible refine LeO.ite ?_ ?_)
      | (with_reducible refine LeO.bind ?_ (fun _ => ?_))
      | exact ih0 _ _ _ _ _ _
      | exact ih1 _ _ _
      | exact impl_StickThree.mono _ _ _ _
      | exact impl_TriAll.mono _ _
      | exact laws_sameRows.mono _ _ _
      | exact laws_total.mono _ _
      | exact spec_DrawTriAll.mono _ _
      | exact spec_TriAll.mono _ _
      | exact LeO.none _
      | refine LeO.ite ?_ ?_
      | refine LeO.bind ?_ (fun _ => ?_)
    · intro y0 y1 y2
      unfold laws_FnTriAll.l0
      repeat' first
      | (with_reducible exact ih0 _ _ _ _ _ _)
      | (with_reducible exact ih1 _ _ _)
      | (with_reducible exact impl_StickThree.mono _ _ _ _)
      | (with_reducible exact impl_TriAll.mono _ _)
      | (with_reducible exact laws_sameRows.mono _ _ _)
      | (with_reducible exact laws_total.mono _ _)
      | (with_reducible exact spec_DrawTriAll.mono _ _)
      | (with_reducible exact spec_TriAll.mono _ _)
      | (with_reducible exact LeO.refl _)
      | (with_reducible exact LeO.none _)
      | (with_reducible refine LeO.ite ?_ ?_)
      | (with_reducible refine LeO.bind ?_ (fun _ => ?_))
      | exact ih0 _ _ _ _ _ _
      | exact ih1 _ _ _
      | exact impl_StickThree.mono _ _ _ _
      | exact impl_TriAll.mono _ _
      | exact laws_sameRows.mono _ _ _
      | exact laws_total.mono _ _
      | exact spec_DrawTriAll.mono _ _
      | exact spec_TriAll.mono _ _
      | exact LeO.none _
      | refine LeO.ite ?_ ?_
      | refine LeO.bind ?_ (fun _ => ?_)
theorem laws_FnTriAll.mono : ∀ a0 k, LeO (laws_FnTriAll.f k a0) (laws_FnTriAll.f (k + 1) a0) := by
  intro a0 k
  obtain ⟨ih0, ih1⟩ := laws_FnTriAll.mono_l k
  unfold laws_FnTriAll.f
  repeat' first
      | (with_reducible exact ih0 _ _ _ _ _ _)
      | (with_reducible exact ih1 _ _ _)
      | (with_reducible exact impl_StickThree.mono _ _ _ _)
      | (with_reducible exact impl_TriAll.mono _ _)
      | (with_reducible exact laws_sameRows.mono _ _ _)
      | (with_reducible exact laws_total.mono _ _)
      | (with_reducible exact spec_DrawTriAll.mono _ _)
      | (with_reducible exact spec_TriAll.mono _ _)
      | (with_reducible exact LeO.refl _)
      | (with_reducible exact LeO.none _)
      | (with_reducible refine LeO.ite ?_ ?_)
      | (with_reducible refine LeO.bind ?_ (fun _ => ?_))
      | exact ih0 _ _ _ _ _ _
      | exact ih1 _ _ _
      | exact impl_StickThree.mono _ _ _ _
      | exact impl_TriAll.mono _ _
      | exact laws_sameRows.mono _ _ _
      | exact laws_total.mono _ _
      | exact spec_DrawTriAll.mono _ _
      | exact spec_TriAll.mono _ _
      | exact LeO.none _
      | refine LeO.ite ?_ ?_
      | refine LeO.bind ?_ (fun _ => ?_)
def laws_FnTriAll.T12 : Bool × List (List Nat × List Nat) := (true, [([], []), ([0], [0]), ([1], [1]), ([2], [2]), ([3], [3]), ([4, 3, 3], [3, 4]), ([3], [3]), ([5, 6, 3], [3, 5, 6]), ([3, 7], [3, 7]), ([8, 5], [8]), ([9], [9]), ([10, 9], [9, 10]), ([11, 9], [9, 11]), ([9], [9]), ([13, 9], [9, 13]), ([14, 9], [9, 14]), ([12, 15, 9], [9, 12, 15]), ([9, 16], [9, 16]), ([17, 9], [17]), ([18], [18]), ([19, 18], [18, 19]), ([20, 18], [18, 20]), ([18], [18]), ([22, 18], [18, 22]), ([23, 18], [18, 23]), ([21, 24, 18], [18, 21, 24]), ([18, 25], [18, 25]), ([26, 18], [26]), ([27], [27]), ([28, 27], [27, 28]), ([29, 27], [27, 29]), ([27], [27]), ([31, 27], [27, 31]), ([32, 27], [27, 32]), ([27], [27]), ([34, 27], [27, 34]), ([35, 27], [27, 35]), ([30, 33, 36, 27, 27], [27, 30, 33, 36]), ([37, 27], [27, 37]), ([27, 38], [27, 38])])
def laws_FnTriAll.B12 : List Nat := [0, 1, 3, 7, 15, 31, 15, 127, 255, 511, 1023, 2047, 4095, 1023, 9215, 25599, 65535, 131071, 262143, 524287, 1048575, 2097151, 524287, 4718591, 13107199, 33554431, 67108863, 134217727, 268435455, 536870911, 1073741823, 268435455, 2415919103, 6710886399, 268435455, 17448304639, 51808043007, 137438953471, 274877906943, 549755813887]
theorem laws_FnTriAll.tab12 : rtab .any (opsOf Try.f3 12) = laws_FnTriAll.T12 := by kernel_rfl
theorem laws_FnTriAll.bits12 : waitsOk laws_FnTriAll.T12.2 laws_FnTriAll.B12 = true := by kernel_rfl
def laws_FnTriAll.T14 : Bool × List (List Nat × List Nat) := (true, [([], []), ([0], [0]), ([1], [1]), ([2], [2]), ([3, 2], [2, 3]), ([4, 2], [2, 4]), ([2], [2]), ([2], [2]), ([7, 2], [2, 7]), ([6, 8, 2], [2, 6, 8]), ([9, 2], [2, 9]), ([10, 2], [2, 10]), ([11, 2], [2, 11]), ([5, 12, 2], [2, 5, 12]), ([13, 2, 2], [2, 13]), ([14], [14]), ([15, 14], [14, 15]), ([16, 14], [14, 16]), ([14], [14]), ([14], [14]), ([19, 14], [14, 19]), ([18, 20, 14], [14, 18, 20]), ([21, 14], [14, 21]), ([22, 14], [14, 22]), ([23, 14], [14, 23]), ([17, 24, 14], [14, 17, 24]), ([25, 14, 14], [14, 25]), ([26], [26]), ([27, 26], [26, 27]), ([28, 26], [26, 28]), ([26], [26]), ([26], [26]), ([31, 26], [26, 31]), ([30, 32, 26], [26, 30, 32]), ([33, 26], [26, 33]), ([34, 26], [26, 34]), ([35, 26], [26, 35]), ([29, 36, 26], [26, 29, 36]), ([26, 37, 14], [14, 26, 37]), ([14, 38, 2], [2, 14, 38]), ([2, 39], [2, 39])])
def laws_FnTriAll.B14 : List Nat := [0, 1, 3, 7, 15, 31, 7, 7, 135, 455, 967, 1991, 4039, 8191, 16383, 32767, 65535, 131071, 32767, 32767, 557055, 1867775, 3964927, 8159231, 16547839, 33554431, 67108863, 134217727, 268435455, 536870911, 134217727, 134217727, 2281701375, 7650410495, 16240345087, 33420214271, 67779952639, 137438953471, 274877906943, 549755813887, 1099511627775]
theorem laws_FnTriAll.tab14 : rtab .any (opsOf Try.f3 14) = laws_FnTriAll.T14 := by kernel_rfl
theorem laws_FnTriAll.bits14 : waitsOk laws_FnTriAll.T14.2 laws_FnTriAll.B14 = true := by kernel_rfl
set_option maxHeartbeats 8000000 in
set_option maxRecDepth 100000 in
theorem laws_FnTriAll.calls (k : Nat) (A0 : Option Addr) (c0 : Nat) (l0 : List Int) (r : Bool) (w : World) (hr0 : Kd.C (Kd.int .u8) w A0 l0.length l0) (hc0 : l0.length ≤ c0) (h : laws_FnTriAll.f k l0 = some r) :
 Calls Try.prog 3 #[.slice A0 l0.length c0] w fun e w' => e = .returned (.bool r) ∧ Below w.heap.size w w' := by
 have HR0 := Aside0.mk hr0
 have HC0 := Aside0.mk hc0
 clear hr0 hc0
 have HB := Aside0.mk (Below.refl w.heap.size w)
 have H : (if (l0.length : Int) > 1048576 then (some true) else ((spec_DrawTriAll.f k l0).bind fun t154 => ((impl_TriAll.f k t154).bind fun bt155 => ((spec_TriAll.f k t154).bind fun bt159 => (if (bt155.2 == bt159.2) = true then ((laws_sameRows.f k bt155.1 bt159.1).bind fun t163 => (if t163 = true then (laws_FnTriAll.j0 k t154 bt155.1 bt155.2 bt159.1 bt159.2 (!bt155.2)) else (laws_FnTriAll.j0 k t154 bt155.1 bt155.2 bt159.1 bt159.2 true))) else (laws_FnTriAll.j0 k t154 bt155.1 bt155.2 bt159.1 bt159.2 true)))))) = some r := h
 clear h
 by_cases c2 : (l0.length : Int) > 1048576
 ·rw [if_pos c2] at H
  have c2b0 : decide (1048576 < (l0.length : Int)) = true := decide_eq_true c2
  have c2b1 : decide (1048576 < l0.length) = true := decide_eq_true (by omega)
  clear c2
  obtain rfl := Option.some.inj H
  go_enter Try.func3, Try.ntmps3
  go_wp2
  go_ret
  exact ⟨by first | rfl | (simp [errW_none, errW_some] <;> rfl) | (simp [*, errW_none, errW_some] <;> rfl) | (simp [i64_w]; done) | (simp [*, i64_w]; done) | (simp [Esame.out]; done) | (simp [*, Esame.out]; done), by repeat (first | (with_reducible first | exact HB.out | apply below_alloc | apply pw_below_drewN | apply below_drew1) | exact HB.out)⟩
 ·rw [if_neg c2] at H
  have c2b0 : decide (1048576 < (l0.length : Int)) = false := decide_eq_false c2
  have c2b1 : decide (1048576 < l0.length) = false := decide_eq_false (by omega)
  clear c2
  replace H := Option.bind_eq_some_iff.mp H
  obtain ⟨t154, A30, H⟩ := H
  replace H : ((impl_TriAll.f k t154).bind fun bt155 => ((spec_TriAll.f k t154).bind fun bt159 => (if (bt155.2 == bt159.2) = true then ((laws_sameRows.f k bt155.1 bt159.1).bind fun t163 => (if t163 = true then (laws_FnTriAll.j0 k t154 bt155.1 bt155.2 bt159.1 bt159.2 (!bt155.2)) else (laws_FnTriAll.j0 k t154 bt155.1 bt155.2 bt159.1 bt159.2 true))) else (laws_FnTriAll.j0 k t154 bt155.1 bt155.2 bt159.1 bt159.2 true)))) = some r := H
  have A3 := Aside0.mk A30
  clear A30
  replace H := Option.bind_eq_some_iff.mp H
  obtain ⟨⟨t155, t156⟩, A40, H⟩ := H
  replace H : ((spec_TriAll.f k t154).bind fun bt159 => (if (t156 == bt159.2) = true then ((laws_sameRows.f k t155 bt159.1).bind fun t163 => (if t163 = true then (laws_FnTriAll.j0 k t154 t155 t156 bt159.1 bt159.2 (!t156)) else (laws_FnTriAll.j0 k t154 t155 t156 bt159.1 bt159.2 true))) else (laws_FnTriAll.j0 k t154 t155 t156 bt159.1 bt159.2 true))) = some r := H
  have A4 := Aside0.mk A40
  clear A40
  replace H := Option.bind_eq_some_iff.mp H
  obtain ⟨⟨t159, t160⟩, A50, H⟩ := H
  replace H : (if (t156 == t160) = true then ((laws_sameRows.f k t155 t159).bind fun t163 => (if t163 = true then (laws_FnTriAll.j0 k t154 t155 t156 t159 t160 (!t156)) else (laws_FnTriAll.j0 k t154 t155 t156 t159 t160 true))) else (laws_FnTriAll.j0 k t154 t155 t156 t159 t160 true)) = some r := H
  have A5 := Aside0.mk A50
  clear A50
  have HC6 := Aside0.mk H
  clear H
  go_enter Try.func3, Try.ntmps3
  go_upto_region 6 with (first | ((with_reducible refine gate_callee (f := 7) rfl ?_); refine goesL_ (some 14) rfl rfl Try.func7 (by kernel_rfl) rfl #[.slice A0 l0.length c0] rfl (by (try simp only [List.map_toArray, List.map_cons, List.map_nil]); first | done | rfl | (simp only [List.length_drop, List.length_take]; rfl)) ?_; (with_reducible refine (spec_DrawTriAll.calls k _ _ l0 t154 _ ?side1 ?side2 A3.out).mono ?_); (case side1 => repeat (first | exact HR0.out | (with_reducible refine Kd.C_alloc ?_ _) | (with_reducible refine Kd.C_drewN ?_ _) | (with_reducible refine Kd.C_drew ?_))); (case side2 => exact HC0.out); rintro e w7 ⟨rfl, hb⟩; refine ⟨_, rfl, ?_⟩; have n0_ := Aside0.mk (below_step (by repeat (first | (with_reducible first | exact HB.out | apply below_alloc | apply pw_below_drewN | apply below_drew1) | exact HB.out)) hb); clear HB; have HB := n0_; clear n0_; (try clear hb); (try clear hb2); (try clear hk); (try clear hi)) | ((with_reducible refine gate_callee (f := 8) rfl ?_); refine goesL_ (some 17) rfl rfl Try.func8 (by kernel_rfl) rfl #[.int .i64 t154] rfl (by (try simp only [List.map_toArray, List.map_cons, List.map_nil]); first | done | rfl | (simp only [List.length_drop, List.length_take]; rfl)) ?_; (with_reducible refine (impl_TriAll.calls k t154 t155 t156 _ A4.out).mono ?_); rintro e w8 ⟨v157, rfl, ho0, hb⟩; refine ⟨_, rfl, ?_⟩; have n0_ := Aside0.mk (Kd.S_lower ho0 (below_size (by repeat (first | (with_reducible first | exact HB.out | apply below_alloc | apply pw_below_drewN | apply below_drew1) | exact HB.out)))); have n1_ := Aside0.mk (below_step (by repeat (first | (with_reducible first | exact HB.out | apply below_alloc | apply pw_below_drewN | apply below_drew1) | exact HB.out)) hb); clear HB; have HO158 := n0_; have HB := n1_; clear n0_ n1_; (try clear hb); (try clear hb2); (try clear hk); (try clear hi); (try clear ho0)) | ((with_reducible refine gate_callee (f := 9) rfl ?_); refine goesL_ (some 22) rfl rfl Try.func9 (by kernel_rfl) rfl #[.int .i64 t154] rfl (by (try simp only [List.map_toArray, List.map_cons, List.map_nil]); first | done | rfl | (simp only [List.length_drop, List.length_take]; rfl)) ?_; (with_reducible refine (spec_TriAll.calls k t154 t159 t160 _ A5.out).mono ?_); rintro e w9 ⟨v161, rfl, ho0, hb⟩; refine ⟨_, rfl, ?_⟩; have n0_ := Aside0.mk (Kd.S_elder' (by (with_reducible repeat (first | apply Kd.S_alloc | apply Kd.S_drewN | apply Kd.S_drew)); exact HO158.out) (Kd.S_base ho0) hb); have n1_ := Aside0.mk (Kd.S_lower (Kd.S_new' ho0 (Kd.S_lt (by (with_reducible repeat (first | apply Kd.S_alloc | apply Kd.S_drewN | apply Kd.S_drew)); exact HO158.out))) (below_size (by repeat (first | (with_reducible first | exact HB.out | apply below_alloc | apply pw_below_drewN | apply below_drew1) | exact HB.out)))); have n2_ := Aside0.mk (below_step (by repeat (first | (with_reducible first | exact HB.out | apply below_alloc | apply pw_below_drewN | apply below_drew1) | exact HB.out)) hb); clear HO158; clear HB; have HO158 := n0_; have HO162 := n1_; have HB := n2_; clear n0_ n1_ n2_; (try clear hb); (try clear hb2); (try clear hk); (try clear hi); (try clear ho0)))
  (try simp only [Act.put, List.setIfInBounds_toArray, List.set_cons_zero, List.set_cons_succ])
  go_cut [37] (fun v37 wc => ∃ (kq : Nat) (x37_5 : Bool), v37 = .bool x37_5 ∧ Aside0 (laws_FnTriAll.j0 kq t154 t155 t156 t159 t160 x37_5 = some r) ∧ Aside0 (kq ≤ k) ∧ Aside0 (Kd.S (Kd.slice 3 (Kd.int .i64)) 28 wc w.heap.size (fun k_ => some k_ ≠ (v161 : Value).ownBlock) v157 t155) ∧ Aside0 (Kd.S (Kd.slice 3 (Kd.int .i64)) 28 wc w.heap.size (fun k_ => some k_ ≠ (v157 : Value).ownBlock) v161 t159) ∧ Aside0 (Below w.heap.size w wc))
  case first =>
   have H := HC6.out
   clear HC6
   by_cases c10 : (t156 == t160) = true
   ·rw [if_pos c10] at H
    have c10b0 : (t156 == t160) = true := c10
    (try (have c10b1 : decide (t156 = t160) = true := by simpa using c10))
    (try (have c10b2 : (t156 == t160) = true := by simpa using c10))
    clear c10
    (first | rw [c10b0] | rw [c10b1] | (simp only [i64_w, i32_w]; rw [c10b0]) | skip)
    replace H := Option.bind_eq_some_iff.mp H
    obtain ⟨t163, A110, H⟩ := H
    replace H : (if t163 = true then (laws_FnTriAll.j0 k t154 t155 t156 t159 t160 (!t156)) else (laws_FnTriAll.j0 k t154 t155 t156 t159 t160 true)) = some r := H
    have A11 := Aside0.mk A110
    clear A110
    by_cases c12 : t163 = true
    ·subst c12
     have H1 : (laws_FnTriAll.j0 k t154 t155 t156 t159 t160 (!t156)) = some r := by rw [if_pos rfl] at H; exact H
     clear H
     have H := H1
     clear H1
     have H' := Aside0.mk H
     clear H
     obtain ⟨Ao13, co13, eo13⟩ := Kd.S_slice HO158.out
     subst eo13
     obtain ⟨Ao14, co14, eo14⟩ := Kd.S_slice HO162.out
     subst eo14
     go_wp2_with (first | (go_at_call 10; (with_reducible refine (laws_sameRows.calls k _ _ t155 _ _ t159 true _ ?side1 ?side2 ?side3 ?side4 A11.out).mono ?_); (case side1 => repeat (first | exact (Kd.S_reads' HO158.out).2.2 | (with_reducible refine Kd.C_alloc ?_ _) | (with_reducible refine Kd.C_drewN ?_ _) | (with_reducible refine Kd.C_drew ?_))); (case side2 => exact (Kd.S_reads' HO158.out).2.1); (case side3 => repeat (first | exact (Kd.S_reads' HO162.out).2.2 | (with_reducible refine Kd.C_alloc ?_ _) | (with_reducible refine Kd.C_drewN ?_ _) | (with_reducible refine Kd.C_drew ?_))); (case side4 => exact (Kd.S_reads' HO162.out).2.1); rintro e w' ⟨rfl, ⟨nd, rfl⟩⟩))
     go_meet
     case rel => exact ⟨_, (!t156), (by first | rfl | (simp; done) | (simp [*]; done) | (simp [i64_w]; done) | (simp [*, i64_w]; done)), H', ⟨by first | omega | exact Nat.le_refl _⟩, ⟨by (with_reducible repeat (first | apply Kd.S_alloc | apply Kd.S_drewN | apply Kd.S_drew)); exact Kd.S_mono HO158.out (fun _ hk => hk.2)⟩, ⟨by (with_reducible repeat (first | apply Kd.S_alloc | apply Kd.S_drewN | apply Kd.S_drew)); exact Kd.S_mono HO162.out (fun _ hk => hk.2)⟩, ⟨by repeat (first | (with_reducible first | exact HB.out | apply below_alloc | apply pw_below_drewN | apply below_drew1) | exact HB.out)⟩⟩
    ·replace c12 := Bool.eq_false_iff.mpr c12
     subst c12
     have H1 : (laws_FnTriAll.j0 k t154 t155 t156 t159 t160 true) = some r := by rw [if_neg (show ¬ (false = true) by decide)] at H; exact H
     clear H
     have H := H1
     clear H1
     have H' := Aside0.mk H
     clear H
     obtain ⟨Ao15, co15, eo15⟩ := Kd.S_slice HO158.out
     subst eo15
     obtain ⟨Ao16, co16, eo16⟩ := Kd.S_slice HO162.out
     subst eo16
     go_wp2_with (first | (go_at_call 10; (with_reducible refine (laws_sameRows.calls k _ _ t155 _ _ t159 false _ ?side1 ?side2 ?side3 ?side4 A11.out).mono ?_); (case side1 => repeat (first | exact (Kd.S_reads' HO158.out).2.2 | (with_reducible refine Kd.C_alloc ?_ _) | (with_reducible refine Kd.C_drewN ?_ _) | (with_reducible refine Kd.C_drew ?_))); (case side2 => exact (Kd.S_reads' HO158.out).2.1); (case side3 => repeat (first | exact (Kd.S_reads' HO162.out).2.2 | (with_reducible refine Kd.C_alloc ?_ _) | (with_reducible refine Kd.C_drewN ?_ _) | (with_reducible refine Kd.C_drew ?_))); (case side4 => exact (Kd.S_reads' HO162.out).2.1); rintro e w' ⟨rfl, ⟨nd, rfl⟩⟩))
     go_meet
     case rel => exact ⟨_, (true), (by first | rfl | (simp; done) | (simp [*]; done) | (simp [i64_w]; done) | (simp [*, i64_w]; done)), H', ⟨by first | omega | exact Nat.le_refl _⟩, ⟨by (with_reducible repeat (first | apply Kd.S_alloc | apply Kd.S_drewN | apply Kd.S_drew)); exact Kd.S_mono HO158.out (fun _ hk => hk.2)⟩, ⟨by (with_reducible repeat (first | apply Kd.S_alloc | apply Kd.S_drewN | apply Kd.S_drew)); exact Kd.S_mono HO162.out (fun _ hk => hk.2)⟩, ⟨by repeat (first | (with_reducible first | exact HB.out | apply below_alloc | apply pw_below_drewN | apply below_drew1) | exact HB.out)⟩⟩
   ·rw [if_neg c10] at H
    have c10b0 : (t156 == t160) = false := by simpa using c10
    (try (have c10b1 : decide (t156 = t160) = false := by simpa using c10))
    (try (have c10b2 : (t156 == t160) = false := by simpa using c10))
    (try (have c10b3 : ¬ (t156 = t160) := by simpa using c10))
    clear c10
    (first | rw [c10b0] | rw [c10b1] | (simp only [i64_w, i32_w]; rw [c10b0]) | skip)
    have H' := Aside0.mk H
    clear H
    go_wp2
    go_meet
    case rel => exact ⟨_, (true), (by first | rfl | (simp; done) | (simp [*]; done) | (simp [i64_w]; done) | (simp [*, i64_w]; done)), H', ⟨by first | omega | exact Nat.le_refl _⟩, ⟨by (with_reducible repeat (first | apply Kd.S_alloc | apply Kd.S_drewN | apply Kd.S_drew)); exact Kd.S_mono HO158.out (fun _ hk => hk.2)⟩, ⟨by (with_reducible repeat (first | apply Kd.S_alloc | apply Kd.S_drewN | apply Kd.S_drew)); exact Kd.S_mono HO162.out (fun _ hk => hk.2)⟩, ⟨by repeat (first | (with_reducible first | exact HB.out | apply below_alloc | apply pw_below_drewN | apply below_drew1) | exact HB.out)⟩⟩
  case rest =>
   clear HC6
   try clear c1
   try clear c2
   try clear c2b0
   try clear c2b1
   try clear p2
   try clear c3
   try clear c7
   try clear c8
   try clear c9
   try clear c10
   try clear c10b0
   try clear c10b1
   try clear c10b2
   try clear c12
   obtain ⟨kq, x37_5, rfl, HA, HJ5, HO_4, HO_6, HB⟩ := hcut
   cases kq with
   | zero => exact absurd HA.out (by simp [laws_FnTriAll.j0])
   | succ kj5 =>
    have H := HA.out
    clear HA
    simp only [laws_FnTriAll.j0] at H
    by_cases c17 : x37_5 = true
    ·subst c17
     have H1 : (if (t156 == t160) = true then ((laws_sameRows.f kj5 t155 t159).bind fun t164 => (some t164)) else (some false)) = some r := by rw [if_pos rfl] at H; exact H
     clear H
     have H := H1
     clear H1
     by_cases c18 : (t156 == t160) = true
     ·rw [if_pos c18] at H
      have c18b0 : (t156 == t160) = true := c18
      (try (have c18b1 : decide (t156 = t160) = true := by simpa using c18))
      (try (have c18b2 : (t156 == t160) = true := by simpa using c18))
      clear c18
      replace H := Option.bind_eq_some_iff.mp H
      obtain ⟨t164, A190, H⟩ := H
      replace H : (some t164) = some r := H
      have A19 := Aside0.mk A190
      clear A190
      obtain rfl := Option.some.inj H
      obtain ⟨Ao20, co20, eo20⟩ := Kd.S_slice HO_4.out
      subst eo20
      obtain ⟨Ao21, co21, eo21⟩ := Kd.S_slice HO_6.out
      subst eo21
      go_wp2_with (first | (go_at_call 10; (with_reducible refine (laws_sameRows.calls kj5 _ _ t155 _ _ t159 t164 _ ?side1 ?side2 ?side3 ?side4 A19.out).mono ?_); (case side1 => repeat (first | exact (Kd.S_reads' HO_4.out).2.2 | (with_reducible refine Kd.C_alloc ?_ _) | (with_reducible refine Kd.C_drewN ?_ _) | (with_reducible refine Kd.C_drew ?_))); (case side2 => exact (Kd.S_reads' HO_4.out).2.1); (case side3 => repeat (first | exact (Kd.S_reads' HO_6.out).2.2 | (with_reducible refine Kd.C_alloc ?_ _) | (with_reducible refine Kd.C_drewN ?_ _) | (with_reducible refine Kd.C_drew ?_))); (case side4 => exact (Kd.S_reads' HO_6.out).2.1); rintro e w' ⟨rfl, ⟨nd, rfl⟩⟩))
      go_ret
      exact ⟨by first | rfl | (simp [errW_none, errW_some] <;> rfl) | (simp [*, errW_none, errW_some] <;> rfl) | (simp [i64_w]; done) | (simp [*, i64_w]; done) | (simp [Esame.out]; done) | (simp [*, Esame.out]; done), by repeat (first | (with_reducible first | exact HB.out | apply below_alloc | apply pw_below_drewN | apply below_drew1) | exact HB.out)⟩
     ·rw [if_neg c18] at H
      have c18b0 : (t156 == t160) = false := by simpa using c18
      (try (have c18b1 : decide (t156 = t160) = false := by simpa using c18))
      (try (have c18b2 : (t156 == t160) = false := by simpa using c18))
      (try (have c18b3 : ¬ (t156 = t160) := by simpa using c18))
      clear c18
      obtain rfl := Option.some.inj H
      go_wp2
      go_ret
      exact ⟨by first | rfl | (simp [errW_none, errW_some] <;> rfl) | (simp [*, errW_none, errW_some] <;> rfl) | (simp [i64_w]; done) | (simp [*, i64_w]; done) | (simp [Esame.out]; done) | (simp [*, Esame.out]; done), by repeat (first | (with_reducible first | exact HB.out | apply below_alloc | apply pw_below_drewN | apply below_drew1) | exact HB.out)⟩
    ·replace c17 := Bool.eq_false_iff.mpr c17
     subst c17
     have H1 : (laws_FnTriAll.l0 kj5 t154 t155 0) = some r := by rw [if_neg (show ¬ (false = true) by decide)] at H; exact H
     clear H
     have H := H1
     clear H1
     have H' := Aside0.mk H
     clear H
     go_wp2
     go_loopg [8] kj5 (fun kq v8 w' => ∃ (x8_2 : Int), v8 = .int .i64 x8_2 ∧ Aside0 (laws_FnTriAll.l0 kq t154 t155 x8_2 = some r) ∧ Aside0 (kq ≤ kj5) ∧ Aside0 (Kd.S (Kd.slice 3 (Kd.int .i64)) 28 w' w.heap.size (fun _ => True) v157 t155) ∧ Aside0 (Below w.heap.size w w'))
     case atStart => exact ⟨(0), (by first | rfl | (simp; done) | (simp [*]; done) | (simp [i64_w]; done) | (simp [*, i64_w]; done)), H', ⟨Nat.le_refl _⟩, ⟨by (with_reducible repeat (first | apply Kd.S_alloc | apply Kd.S_drewN | apply Kd.S_drew)); exact Kd.S_mono HO_4.out (fun _ hk => trivial)⟩, ⟨by repeat (first | (with_reducible first | exact HB.out | apply below_alloc | apply pw_below_drewN | apply below_drew1) | exact HB.out)⟩⟩
     case round =>
      clear H'
      try clear c1
      try clear c2
      try clear c2b0
      try clear c2b1
      try clear p2
      try clear c3
      try clear c7
      try clear c8
      try clear c9
      try clear c10
      try clear c10b0
      try clear c10b1
      try clear c10b2
      try clear c12
      try clear c17
      try clear c18
      try clear c18b0
      try clear c18b1
      try clear c18b2
      try clear p2
      obtain ⟨x8_2, rfl, HA, HK2, HO_4, HB⟩ := hrel
      cases gk with
      | zero => exact absurd HA.out (by simp [laws_FnTriAll.l0])
      | succ k2 =>
       have H := HA.out
       clear HA
       simp only [laws_FnTriAll.l0] at H
       by_cases c22 : x8_2 < (t155.length : Int)
       ·rw [if_pos c22] at H
        have c22b0 : decide (x8_2 < (t155.length : Int)) = true := decide_eq_true c22
        clear c22
        by_cases c23 : 0 ≤ x8_2
        ·rw [if_pos c23] at H
         have c23b0 : decide (0 ≤ x8_2) = true := decide_eq_true c23
         clear c23
         by_cases c24 : ((rd_L2 t155 x8_2).length : Int) = 3
         ·rw [if_pos c24] at H
          have c24b0 : (((rd_L2 t155 x8_2).length : Int) == 3) = true := beq_iff_eq.mpr c24
          have c24b1 : (((rd_L2 t155 x8_2).length : Int) != 3) = false := bne_eq_false_iff_eq.mpr c24
          clear c24
          replace H := Option.bind_eq_some_iff.mp H
          obtain ⟨t166, A250, H⟩ := H
          replace H : (if t166 = t154 then (if 0 < ((rd_L2 t155 x8_2).length : Int) then (if 1 < ((rd_L2 t155 x8_2).length : Int) then (if (rd (rd_L2 t155 x8_2) 0) > (rd (rd_L2 t155 x8_2) 1) then (some false) else (if 2 < ((rd_L2 t155 x8_2).length : Int) then (if (rd (rd_L2 t155 x8_2) 1) > (rd (rd_L2 t155 x8_2) 2) then (some false) else ((impl_StickThree.f k2 (rd (rd_L2 t155 x8_2) 0) (rd (rd_L2 t155 x8_2) 1) (rd (rd_L2 t155 x8_2) 2)).bind fun t174 => (if t174 = true then (if x8_2 > 0 then (if 0 ≤ (wrap64 (x8_2 - 1)) then (if (wrap64 (x8_2 - 1)) < (t155.length : Int) then (if 0 < ((rd_L2 t155 (wrap64 (x8_2 - 1))).length : Int) then (if (rd (rd_L2 t155 x8_2) 0) < (rd (rd_L2 t155 (wrap64 (x8_2 - 1))) 0) then (some false) else (if (rd (rd_L2 t155 x8_2) 0) = (rd (rd_L2 t155 (wrap64 (x8_2 - 1))) 0) then (if 1 < ((rd_L2 t155 (wrap64 (x8_2 - 1))).length : Int) then (if (rd (rd_L2 t155 x8_2) 1) ≤ (rd (rd_L2 t155 (wrap64 (x8_2 - 1))) 1) then (some false) else (laws_FnTriAll.l0 k2 t154 t155 (wrap64 (x8_2 + 1)))) else (none)) else (laws_FnTriAll.l0 k2 t154 t155 (wrap64 (x8_2 + 1))))) else (none)) else (none)) else (none)) else (laws_FnTriAll.l0 k2 t154 t155 (wrap64 (x8_2 + 1)))) else (some false)))) else (none))) else (none)) else (none)) else (some false)) = some r := H
          have A25 := Aside0.mk A250
          clear A250
          by_cases c26 : t166 = t154
          ·rw [if_pos c26] at H
           have c26b0 : (t166 == t154) = true := beq_iff_eq.mpr c26
           have c26b1 : (t166 != t154) = false := bne_eq_false_iff_eq.mpr c26
           clear c26
           by_cases c27 : 0 < ((rd_L2 t155 x8_2).length : Int)
           ·rw [if_pos c27] at H
            have c27b0 : decide (0 < ((rd_L2 t155 x8_2).length : Int)) = true := decide_eq_true c27
            have c27b1 : decide (0 < (rd_L2 t155 x8_2).length) = true := decide_eq_true (by omega)
            clear c27
            by_cases c28 : 1 < ((rd_L2 t155 x8_2).length : Int)
            ·rw [if_pos c28] at H
             have c28b0 : decide (1 < ((rd_L2 t155 x8_2).length : Int)) = true := decide_eq_true c28
             have c28b1 : decide (1 < (rd_L2 t155 x8_2).length) = true := decide_eq_true (by omega)
             clear c28
             by_cases c29 : (rd (rd_L2 t155 x8_2) 0) > (rd (rd_L2 t155 x8_2) 1)
             ·rw [if_pos c29] at H
              have c29b0 : decide ((rd (rd_L2 t155 x8_2) 1) < (rd (rd_L2 t155 x8_2) 0)) = true := decide_eq_true c29
              clear c29
              obtain rfl := Option.some.inj H
              obtain ⟨Ao30, co30, eo30⟩ := Kd.S_slice HO_4.out
              subst eo30
              have p165 : 0 ≤ (x8_2 : Int) := of_decide_eq_true (by first | (with_reducible assumption) | assumption)
              have q165 : x8_2 < (t155.length : Int) := of_decide_eq_true (by first | (with_reducible assumption) | assumption)
              obtain ⟨ad165, A165_0, c165_0, e165, hx165_0, hl165_0, hi165_0⟩ := at_L2 (Kd.S_reads' HO_4.out).2.2 x8_2 p165 q165
              cases e165
              obtain ⟨ce165, hce165, hMe165, hcc165⟩ := Kd.S_get HO_4.out [] x8_2 p165 (by first | exact q165 | exact of_decide_eq_true (by first | (with_reducible assumption) | assumption) | (have e_ := (Kd.S_reads' HO_4.out).1; omega))
              obtain ⟨ve165_0, rfl, ge165_0⟩ := hMe165
              have hv165_0 := hcc165 0 _ rfl
              rw [Nat.add_zero, show ((Kd.slice 3 (Kd.int .i64))).sz = 1 from rfl, Nat.mul_one] at hv165_0
              replace hv165_0 := Option.some.inj (hv165_0.symm.trans hx165_0)
              rw [hv165_0] at ge165_0
              have HL165_0 := Aside0.mk (show Kd.R (Kd.int .i64) 3 _ _ _ _ (rd_L2 t155 x8_2) from ge165_0)
              clear hv165_0 ge165_0
              clear hcc165 hce165
              have HR165_0 := Aside0.mk hi165_0
              have HC165_0 := Aside0.mk hl165_0
              clear hi165_0 hl165_0
              replace p165 := eq_true p165
              replace q165 := eq_true q165
              try go_wp2
              have n0_ := Aside0.mk (Kd.S_drew HO_4.out)
              have n1_ := Aside0.mk (Kd.R_drew HL165_0.out)
              have n2_ := Aside0.mk (Kd.C_drew HR165_0.out)
              have n3_ := Aside0.mk (below_drew1 HB.out)
              clear HO_4
              clear HL165_0
              clear HR165_0
              clear HB
              have HO_4 := n0_
              have HL165_0 := n1_
              have HR165_0 := n2_
              have HB := n3_
              clear n0_ n1_ n2_ n3_
              have p167 : 0 ≤ (0 : Int) := (by omega)
              have q167 : 0 < ((rd_L2 t155 x8_2).length : Int) := of_decide_eq_true (by first | (with_reducible assumption) | assumption)
              obtain ⟨ad167, e167, hx167_0⟩ := Kd.at_int (by repeat (first | (with_reducible exact HR165_0.out) | (with_reducible refine Kd.C_alloc ?_ _) | (with_reducible refine Kd.C_drewN ?_ _) | (with_reducible refine Kd.C_drew ?_) | exact HR165_0.out)) 0 p167 q167
              cases e167
              have qi167 : (0 < (rd_L2 t155 x8_2).length) = True := eq_true (by omega)
              (try rw [show ((0 : Int)).toNat = 0 from rfl] at hx167_0)
              (try rw [Addr.add_zero'] at hx167_0)
              replace p167 := eq_true p167
              replace q167 := eq_true q167
              have p168 : 0 ≤ (1 : Int) := (by omega)
              have q168 : 1 < ((rd_L2 t155 x8_2).length : Int) := of_decide_eq_true (by first | (with_reducible assumption) | assumption)
              obtain ⟨ad168, e168, hx168_0⟩ := Kd.at_int (by repeat (first | (with_reducible exact HR165_0.out) | (with_reducible refine Kd.C_alloc ?_ _) | (with_reducible refine Kd.C_drewN ?_ _) | (with_reducible refine Kd.C_drew ?_) | exact HR165_0.out)) 1 p168 q168
              obtain rfl : ad167 = ad168 := (by injection e168)
              (try simp only [show (1 : Int).toNat = 1 from rfl, Nat.reduceMul, Nat.reduceEqDiff, Go.Addr.add, ↓reduceIte] at hx168_0)
              have qi168 : (1 < (rd_L2 t155 x8_2).length) = True := eq_true (by omega)
              (try rw [show ((1 : Int)).toNat = 1 from rfl] at hx168_0)
              replace p168 := eq_true p168
              replace q168 := eq_true q168
              refine start_ (n := 40) (S := fun w' => w'.cell? ad167 = some (.int .i64 (rd (rd_L2 t155 x8_2) 0)) ∧ w'.cell? ⟨ad167.block, ad167.off + 1, none⟩ = some (.int .i64 (rd (rd_L2 t155 x8_2) 1))) (ds := []) b0 (by kernel_rfl) rfl rfl ⟨hx167_0, hx168_0⟩ (fun hHeld => ?_); refine with_tabW laws_FnTriAll.tab12 laws_FnTriAll.bits12 (fun HT_ HW_ => ?_)
              generalize wr.drew = w31 at HO_4 HL165_0 HR165_0 HB hHeld ⊢
              refine pu 0 (some 56) b1 HT_ rfl rfl ?_
              refine pu 1 (some 57) b2 HT_ rfl rfl ?_
              refine pu 2 (some 58) b3 HT_ rfl rfl ?_
              refine pu 3 (some 59) b4 HT_ rfl rfl ?_
              refine pu 4 (some 60) b5 HT_ rfl rfl ?_
              refine pu 6 (some 62) b6 HT_ rfl rfl ?_
              refine one_ (i := 5) (N := some 61) b7 rfl rfl (one_of HT_.out (by kernel_rfl)) (by decide) (fun K hK => ?_)
              refine goes_ Try.func11 (by kernel_rfl) rfl #[.slice _ (rd_L2 t155 x8_2).length c165_0] (by rfl) rfl rfl (by (try simp only [List.map_toArray, List.map_cons, List.map_nil]); first | done | rfl | (simp only [List.length_drop, List.length_take]; rfl)) ?_
              with_reducible refine (laws_total.calls k2 _ _ (rd_L2 t155 x8_2) t166 _ ?side1 ?side2 A25.out).mono ?_
              (case side1 => repeat (first | exact (by repeat (first | (with_reducible exact HR165_0.out) | (with_reducible refine Kd.C_alloc ?_ _) | (with_reducible refine Kd.C_drewN ?_ _) | (with_reducible refine Kd.C_drew ?_) | exact HR165_0.out)) | (with_reducible refine Kd.C_alloc ?_ _) | (with_reducible refine Kd.C_drewN ?_ _) | (with_reducible refine Kd.C_drew ?_)))
              (case side2 => exact HC165_0.out)
              rintro e w' ⟨rfl, ⟨nd, rfl⟩⟩
              refine ⟨_, rfl, ?_⟩
              refine hK.out _ _ ⟨hHeld.1, hHeld.2⟩ (fun hHeld => ?_)
              clear hK K
              refine norm_ (a' := ?_) ?_ ?_
              rotate_left
              ·show Act.put _ (some 61) _ = _
               simp only [Act.put, List.setIfInBounds_toArray, List.set_cons_zero, List.set_cons_succ, i64_w, i32_w]
               rfl
              refine pu 7 (some 63) b8 HT_ rfl rfl ?_
              refine pu 8 (some 64) b9 HT_ rfl rfl ?_
              refine pu 9 (some 65) b10 HT_ rfl rfl ?_
              refine pu 10 (some 66) b11 HT_ rfl rfl ?_
              refine pu 11 (some 67) b12 HT_ rfl rfl ?_
              refine pu 13 (some 69) b13 HT_ rfl rfl ?_
              refine pu 14 (some 70) b14 HT_ rfl rfl ?_
              refine take_ (i := 12) (N := some 68) (v := ?_) (a' := ?_) b15 rfl rfl (take_ofW HT_.out HW_.out (by kernel_rfl)) (fun _ _ _ h => h) (Or.inl ⟨by rfl, ?_⟩) hHeld ?_ ?_
              rotate_left
              ·rintro w' ⟨s0, s1⟩
               go_simp
               with_reducible rfl
              rotate_left
              ·simp only [Act.put, List.setIfInBounds_toArray, List.set_cons_zero, List.set_cons_succ, i64_w, i32_w]
               rfl
              refine take_ (i := 15) (N := some 71) (v := ?_) (a' := ?_) b16 rfl rfl (take_ofW HT_.out HW_.out (by kernel_rfl)) (fun _ _ _ h => h) (Or.inl ⟨by rfl, ?_⟩) hHeld ?_ ?_
              rotate_left
              ·rintro w' ⟨s0, s1⟩
               go_simp
               with_reducible rfl
              rotate_left
              ·simp only [Act.put, List.setIfInBounds_toArray, List.set_cons_zero, List.set_cons_succ, i64_w, i32_w]
               rfl
              refine pu 16 (some 72) b17 HT_ rfl rfl ?_
              refine pu 17 (some 73) b18 HT_ rfl rfl ?_
              refine pu 18 (some 74) b19 HT_ rfl rfl ?_
              refine pn 19 (some 75) b20 HT_ rfl rfl ?_
              refine pn 20 (some 76) b21 HT_ rfl rfl ?_
              refine pn 21 (some 77) b22 HT_ rfl rfl ?_
              refine pn 22 (some 78) b23 HT_ rfl rfl ?_
              refine pn 23 (some 79) b24 HT_ rfl rfl ?_
              refine pn 24 (some 80) b25 HT_ rfl rfl ?_
              refine pn 25 (some 81) b26 HT_ rfl rfl ?_
              refine pu 26 (some 82) b27 HT_ rfl rfl ?_
              refine pu 27 (some 83) b28 HT_ rfl rfl ?_
              refine pn 28 (some 84) b29 HT_ rfl rfl ?_
              refine pn 29 (some 85) b30 HT_ rfl rfl ?_
              refine pn 30 (some 86) b31 HT_ rfl rfl ?_
              refine pn 31 (some 87) b32 HT_ rfl rfl ?_
              refine pn 32 (some 88) b33 HT_ rfl rfl ?_
              refine pn 33 (some 89) b34 HT_ rfl rfl ?_
              refine pn 34 (some 90) b35 HT_ rfl rfl ?_
              refine pn 35 (some 91) b36 HT_ rfl rfl ?_
              refine pn 36 (some 92) b37 HT_ rfl rfl ?_
              refine pn 37 (some 93) b38 HT_ rfl rfl ?_
              refine pn 38 (some 94) b39 HT_ rfl rfl ?_
              refine pu 39 (some 95) b40 HT_ rfl rfl ?_
              refine done_ (done_of HT_.out (by kernel_rfl)) ?_
              try go_wp2
              go_ret
              exact ⟨by first | rfl | (simp [errW_none, errW_some] <;> rfl) | (simp [*, errW_none, errW_some] <;> rfl) | (simp [i64_w]; done) | (simp [*, i64_w]; done) | (simp [Esame.out]; done) | (simp [*, Esame.out]; done), by repeat (first | (with_reducible first | exact HB.out | apply below_alloc | apply pw_below_drewN | apply below_drew1) | exact HB.out)⟩
             ·rw [if_neg c29] at H
              have c29b0 : decide ((rd (rd_L2 t155 x8_2) 1) < (rd (rd_L2 t155 x8_2) 0)) = false := decide_eq_false c29
              clear c29
              by_cases c32 : 2 < ((rd_L2 t155 x8_2).length : Int)
              ·rw [if_pos c32] at H
               have c32b0 : decide (2 < ((rd_L2 t155 x8_2).length : Int)) = true := decide_eq_true c32
               have c32b1 : decide (2 < (rd_L2 t155 x8_2).length) = true := decide_eq_true (by omega)
               clear c32
               by_cases c33 : (rd (rd_L2 t155 x8_2) 1) > (rd (rd_L2 t155 x8_2) 2)
               ·rw [if_pos c33] at H
                have c33b0 : decide ((rd (rd_L2 t155 x8_2) 2) < (rd (rd_L2 t155 x8_2) 1)) = true := decide_eq_true c33
                clear c33
                obtain rfl := Option.some.inj H
                obtain ⟨Ao34, co34, eo34⟩ := Kd.S_slice HO_4.out
                subst eo34
                have p165 : 0 ≤ (x8_2 : Int) := of_decide_eq_true (by first | (with_reducible assumption) | assumption)
                have q165 : x8_2 < (t155.length : Int) := of_decide_eq_true (by first | (with_reducible assumption) | assumption)
                obtain ⟨ad165, A165_0, c165_0, e165, hx165_0, hl165_0, hi165_0⟩ := at_L2 (Kd.S_reads' HO_4.out).2.2 x8_2 p165 q165
                cases e165
                obtain ⟨ce165, hce165, hMe165, hcc165⟩ := Kd.S_get HO_4.out [] x8_2 p165 (by first | exact q165 | exact of_decide_eq_true (by first | (with_reducible assumption) | assumption) | (have e_ := (Kd.S_reads' HO_4.out).1; omega))
                obtain ⟨ve165_0, rfl, ge165_0⟩ := hMe165
                have hv165_0 := hcc165 0 _ rfl
                rw [Nat.add_zero, show ((Kd.slice 3 (Kd.int .i64))).sz = 1 from rfl, Nat.mul_one] at hv165_0
                replace hv165_0 := Option.some.inj (hv165_0.symm.trans hx165_0)
                rw [hv165_0] at ge165_0
                have HL165_0 := Aside0.mk (show Kd.R (Kd.int .i64) 3 _ _ _ _ (rd_L2 t155 x8_2) from ge165_0)
                clear hv165_0 ge165_0
                clear hcc165 hce165
                have HR165_0 := Aside0.mk hi165_0
                have HC165_0 := Aside0.mk hl165_0
                clear hi165_0 hl165_0
                replace p165 := eq_true p165
                replace q165 := eq_true q165
                try go_wp2
                have n0_ := Aside0.mk (Kd.S_drew HO_4.out)
                have n1_ := Aside0.mk (Kd.R_drew HL165_0.out)
                have n2_ := Aside0.mk (Kd.C_drew HR165_0.out)
                have n3_ := Aside0.mk (below_drew1 HB.out)
                clear HO_4
                clear HL165_0
                clear HR165_0
                clear HB
                have HO_4 := n0_
                have HL165_0 := n1_
                have HR165_0 := n2_
                have HB := n3_
                clear n0_ n1_ n2_ n3_
                have p167 : 0 ≤ (0 : Int) := (by omega)
                have q167 : 0 < ((rd_L2 t155 x8_2).length : Int) := of_decide_eq_true (by first | (with_reducible assumption) | assumption)
                obtain ⟨ad167, e167, hx167_0⟩ := Kd.at_int (by repeat (first | (with_reducible exact HR165_0.out) | (with_reducible refine Kd.C_alloc ?_ _) | (with_reducible refine Kd.C_drewN ?_ _) | (with_reducible refine Kd.C_drew ?_) | exact HR165_0.out)) 0 p167 q167
                cases e167
                have qi167 : (0 < (rd_L2 t155 x8_2).length) = True := eq_true (by omega)
                (try rw [show ((0 : Int)).toNat = 0 from rfl] at hx167_0)
                (try rw [Addr.add_zero'] at hx167_0)
                replace p167 := eq_true p167
                replace q167 := eq_true q167
                have p168 : 0 ≤ (1 : Int) := (by omega)
                have q168 : 1 < ((rd_L2 t155 x8_2).length : Int) := of_decide_eq_true (by first | (with_reducible assumption) | assumption)
                obtain ⟨ad168, e168, hx168_0⟩ := Kd.at_int (by repeat (first | (with_reducible exact HR165_0.out) | (with_reducible refine Kd.C_alloc ?_ _) | (with_reducible refine Kd.C_drewN ?_ _) | (with_reducible refine Kd.C_drew ?_) | exact HR165_0.out)) 1 p168 q168
                obtain rfl : ad167 = ad168 := (by injection e168)
                (try simp only [show (1 : Int).toNat = 1 from rfl, Nat.reduceMul, Nat.reduceEqDiff, Go.Addr.add, ↓reduceIte] at hx168_0)
                have qi168 : (1 < (rd_L2 t155 x8_2).length) = True := eq_true (by omega)
                (try rw [show ((1 : Int)).toNat = 1 from rfl] at hx168_0)
                replace p168 := eq_true p168
                replace q168 := eq_true q168
                have p169 : 0 ≤ (1 : Int) := (by omega)
                have q169 : 1 < ((rd_L2 t155 x8_2).length : Int) := of_decide_eq_true (by first | (with_reducible assumption) | assumption)
                obtain ⟨ad169, e169, hx169_0⟩ := Kd.at_int (by repeat (first | (with_reducible exact HR165_0.out) | (with_reducible refine Kd.C_alloc ?_ _) | (with_reducible refine Kd.C_drewN ?_ _) | (with_reducible refine Kd.C_drew ?_) | exact HR165_0.out)) 1 p169 q169
                obtain rfl : ad167 = ad169 := (by injection e169)
                (try simp only [show (1 : Int).toNat = 1 from rfl, Nat.reduceMul, Nat.reduceEqDiff, Go.Addr.add, ↓reduceIte] at hx169_0)
                have qi169 : (1 < (rd_L2 t155 x8_2).length) = True := eq_true (by omega)
                (try rw [show ((1 : Int)).toNat = 1 from rfl] at hx169_0)
                replace p169 := eq_true p169
                replace q169 := eq_true q169
                have p170 : 0 ≤ (2 : Int) := (by omega)
                have q170 : 2 < ((rd_L2 t155 x8_2).length : Int) := of_decide_eq_true (by first | (with_reducible assumption) | assumption)
                obtain ⟨ad170, e170, hx170_0⟩ := Kd.at_int (by repeat (first | (with_reducible exact HR165_0.out) | (with_reducible refine Kd.C_alloc ?_ _) | (with_reducible refine Kd.C_drewN ?_ _) | (with_reducible refine Kd.C_drew ?_) | exact HR165_0.out)) 2 p170 q170
                obtain rfl : ad167 = ad170 := (by injection e170)
                (try simp only [show (2 : Int).toNat = 2 from rfl, Nat.reduceMul, Nat.reduceEqDiff, Go.Addr.add, ↓reduceIte] at hx170_0)
                have qi170 : (2 < (rd_L2 t155 x8_2).length) = True := eq_true (by omega)
                (try rw [show ((2 : Int)).toNat = 2 from rfl] at hx170_0)
                replace p170 := eq_true p170
                replace q170 := eq_true q170
                refine start_ (n := 40) (S := fun w' => w'.cell? ad167 = some (.int .i64 (rd (rd_L2 t155 x8_2) 0)) ∧ w'.cell? ⟨ad167.block, ad167.off + 1, none⟩ = some (.int .i64 (rd (rd_L2 t155 x8_2) 1)) ∧ w'.cell? ⟨ad167.block, ad167.off + 1, none⟩ = some (.int .i64 (rd (rd_L2 t155 x8_2) 1)) ∧ w'.cell? ⟨ad167.block, ad167.off + 2, none⟩ = some (.int .i64 (rd (rd_L2 t155 x8_2) 2))) (ds := []) b0 (by kernel_rfl) rfl rfl ⟨hx167_0, hx168_0, hx169_0, hx170_0⟩ (fun hHeld => ?_); refine with_tabW laws_FnTriAll.tab12 laws_FnTriAll.bits12 (fun HT_ HW_ => ?_)
                generalize wr.drew = w35 at HO_4 HL165_0 HR165_0 HB hHeld ⊢
                refine pu 0 (some 56) b1 HT_ rfl rfl ?_
                refine pu 1 (some 57) b2 HT_ rfl rfl ?_
                refine pu 2 (some 58) b3 HT_ rfl rfl ?_
                refine pu 3 (some 59) b4 HT_ rfl rfl ?_
                refine pu 4 (some 60) b5 HT_ rfl rfl ?_
                refine pu 6 (some 62) b6 HT_ rfl rfl ?_
                refine one_ (i := 5) (N := some 61) b7 rfl rfl (one_of HT_.out (by kernel_rfl)) (by decide) (fun K hK => ?_)
                refine goes_ Try.func11 (by kernel_rfl) rfl #[.slice _ (rd_L2 t155 x8_2).length c165_0] (by rfl) rfl rfl (by (try simp only [List.map_toArray, List.map_cons, List.map_nil]); first | done | rfl | (simp only [List.length_drop, List.length_take]; rfl)) ?_
                with_reducible refine (laws_total.calls k2 _ _ (rd_L2 t155 x8_2) t166 _ ?side1 ?side2 A25.out).mono ?_
                (case side1 => repeat (first | exact (by repeat (first | (with_reducible exact HR165_0.out) | (with_reducible refine Kd.C_alloc ?_ _) | (with_reducible refine Kd.C_drewN ?_ _) | (with_reducible refine Kd.C_drew ?_) | exact HR165_0.out)) | (with_reducible refine Kd.C_alloc ?_ _) | (with_reducible refine Kd.C_drewN ?_ _) | (with_reducible refine Kd.C_drew ?_)))
                (case side2 => exact HC165_0.out)
                rintro e w' ⟨rfl, ⟨nd, rfl⟩⟩
                refine ⟨_, rfl, ?_⟩
                refine hK.out _ _ ⟨hHeld.1, hHeld.2.1, hHeld.2.2.1, hHeld.2.2.2⟩ (fun hHeld => ?_)
                clear hK K
                refine norm_ (a' := ?_) ?_ ?_
                rotate_left
                ·show Act.put _ (some 61) _ = _
                 simp only [Act.put, List.setIfInBounds_toArray, List.set_cons_zero, List.set_cons_succ, i64_w, i32_w]
                 rfl
                refine pu 7 (some 63) b8 HT_ rfl rfl ?_
                refine pu 8 (some 64) b9 HT_ rfl rfl ?_
                refine pu 9 (some 65) b10 HT_ rfl rfl ?_
                refine pu 10 (some 66) b11 HT_ rfl rfl ?_
                refine pu 11 (some 67) b12 HT_ rfl rfl ?_
                refine pu 13 (some 69) b13 HT_ rfl rfl ?_
                refine pu 14 (some 70) b14 HT_ rfl rfl ?_
                refine take_ (i := 12) (N := some 68) (v := ?_) (a' := ?_) b15 rfl rfl (take_ofW HT_.out HW_.out (by kernel_rfl)) (fun _ _ _ h => h) (Or.inl ⟨by rfl, ?_⟩) hHeld ?_ ?_
                rotate_left
                ·rintro w' ⟨s0, s1, s2, s3⟩
                 go_simp
                 with_reducible rfl
                rotate_left
                ·simp only [Act.put, List.setIfInBounds_toArray, List.set_cons_zero, List.set_cons_succ, i64_w, i32_w]
                 rfl
                refine take_ (i := 15) (N := some 71) (v := ?_) (a' := ?_) b16 rfl rfl (take_ofW HT_.out HW_.out (by kernel_rfl)) (fun _ _ _ h => h) (Or.inl ⟨by rfl, ?_⟩) hHeld ?_ ?_
                rotate_left
                ·rintro w' ⟨s0, s1, s2, s3⟩
                 go_simp
                 with_reducible rfl
                rotate_left
                ·simp only [Act.put, List.setIfInBounds_toArray, List.set_cons_zero, List.set_cons_succ, i64_w, i32_w]
                 rfl
                refine pu 16 (some 72) b17 HT_ rfl rfl ?_
                refine pu 17 (some 73) b18 HT_ rfl rfl ?_
                refine pu 18 (some 74) b19 HT_ rfl rfl ?_
                refine pu 19 (some 75) b20 HT_ rfl rfl ?_
                refine pu 20 (some 76) b21 HT_ rfl rfl ?_
                refine pu 22 (some 78) b41 HT_ rfl rfl ?_
                refine pu 23 (some 79) b42 HT_ rfl rfl ?_
                refine take_ (i := 21) (N := some 77) (v := ?_) (a' := ?_) b24 rfl rfl (take_ofW HT_.out HW_.out (by kernel_rfl)) (fun _ _ _ h => h) (Or.inl ⟨by rfl, ?_⟩) hHeld ?_ ?_
                rotate_left
                ·rintro w' ⟨s0, s1, s2, s3⟩
                 go_simp
                 with_reducible rfl
                rotate_left
                ·simp only [Act.put, List.setIfInBounds_toArray, List.set_cons_zero, List.set_cons_succ, i64_w, i32_w]
                 rfl
                refine take_ (i := 24) (N := some 80) (v := ?_) (a' := ?_) b25 rfl rfl (take_ofW HT_.out HW_.out (by kernel_rfl)) (fun _ _ _ h => h) (Or.inl ⟨by rfl, ?_⟩) hHeld ?_ ?_
                rotate_left
                ·rintro w' ⟨s0, s1, s2, s3⟩
                 go_simp
                 with_reducible rfl
                rotate_left
                ·simp only [Act.put, List.setIfInBounds_toArray, List.set_cons_zero, List.set_cons_succ, i64_w, i32_w]
                 rfl
                refine pu 25 (some 81) b26 HT_ rfl rfl ?_
                refine pu 26 (some 82) b27 HT_ rfl rfl ?_
                refine pu 27 (some 83) b28 HT_ rfl rfl ?_
                refine pn 28 (some 84) b29 HT_ rfl rfl ?_
                refine pn 29 (some 85) b30 HT_ rfl rfl ?_
                refine pn 30 (some 86) b31 HT_ rfl rfl ?_
                refine pn 31 (some 87) b32 HT_ rfl rfl ?_
                refine pn 32 (some 88) b33 HT_ rfl rfl ?_
                refine pn 33 (some 89) b34 HT_ rfl rfl ?_
                refine pn 34 (some 90) b35 HT_ rfl rfl ?_
                refine pn 35 (some 91) b36 HT_ rfl rfl ?_
                refine pn 36 (some 92) b37 HT_ rfl rfl ?_
                refine pn 37 (some 93) b38 HT_ rfl rfl ?_
                refine pn 38 (some 94) b39 HT_ rfl rfl ?_
                refine pu 39 (some 95) b40 HT_ rfl rfl ?_
                refine done_ (done_of HT_.out (by kernel_rfl)) ?_
                try go_wp2
                go_ret
                exact ⟨by first | rfl | (simp [errW_none, errW_some] <;> rfl) | (simp [*, errW_none, errW_some] <;> rfl) | (simp [i64_w]; done) | (simp [*, i64_w]; done) | (simp [Esame.out]; done) | (simp [*, Esame.out]; done), by repeat (first | (with_reducible first | exact HB.out | apply below_alloc | apply pw_below_drewN | apply below_drew1) | exact HB.out)⟩
               ·rw [if_neg c33] at H
                have c33b0 : decide ((rd (rd_L2 t155 x8_2) 2) < (rd (rd_L2 t155 x8_2) 1)) = false := decide_eq_false c33
                clear c33
                replace H := Option.bind_eq_some_iff.mp H
                obtain ⟨t174, A360, H⟩ := H
                replace H : (if t174 = true then (if x8_2 > 0 then (if 0 ≤ (wrap64 (x8_2 - 1)) then (if (wrap64 (x8_2 - 1)) < (t155.length : Int) then (if 0 < ((rd_L2 t155 (wrap64 (x8_2 - 1))).length : Int) then (if (rd (rd_L2 t155 x8_2) 0) < (rd (rd_L2 t155 (wrap64 (x8_2 - 1))) 0) then (some false) else (if (rd (rd_L2 t155 x8_2) 0) = (rd (rd_L2 t155 (wrap64 (x8_2 - 1))) 0) then (if 1 < ((rd_L2 t155 (wrap64 (x8_2 - 1))).length : Int) then (if (rd (rd_L2 t155 x8_2) 1) ≤ (rd (rd_L2 t155 (wrap64 (x8_2 - 1))) 1) then (some false) else (laws_FnTriAll.l0 k2 t154 t155 (wrap64 (x8_2 + 1)))) else (none)) else (laws_FnTriAll.l0 k2 t154 t155 (wrap64 (x8_2 + 1))))) else (none)) else (none)) else (none)) else (laws_FnTriAll.l0 k2 t154 t155 (wrap64 (x8_2 + 1)))) else (some false)) = some r := H
                have A36 := Aside0.mk A360
                clear A360
                by_cases c37 : t174 = true
                ·subst c37
                 have H1 : (if x8_2 > 0 then (if 0 ≤ (wrap64 (x8_2 - 1)) then (if (wrap64 (x8_2 - 1)) < (t155.length : Int) then (if 0 < ((rd_L2 t155 (wrap64 (x8_2 - 1))).length : Int) then (if (rd (rd_L2 t155 x8_2) 0) < (rd (rd_L2 t155 (wrap64 (x8_2 - 1))) 0) then (some false) else (if (rd (rd_L2 t155 x8_2) 0) = (rd (rd_L2 t155 (wrap64 (x8_2 - 1))) 0) then (if 1 < ((rd_L2 t155 (wrap64 (x8_2 - 1))).length : Int) then (if (rd (rd_L2 t155 x8_2) 1) ≤ (rd (rd_L2 t155 (wrap64 (x8_2 - 1))) 1) then (some false) else (laws_FnTriAll.l0 k2 t154 t155 (wrap64 (x8_2 + 1)))) else (none)) else (laws_FnTriAll.l0 k2 t154 t155 (wrap64 (x8_2 + 1))))) else (none)) else (none)) else (none)) else (laws_FnTriAll.l0 k2 t154 t155 (wrap64 (x8_2 + 1)))) = some r := by rw [if_pos rfl] at H; exact H
                 clear H
                 have H := H1
                 clear H1
                 by_cases c38 : x8_2 > 0
                 ·rw [if_pos c38] at H
                  have c38b0 : decide (0 < x8_2) = true := decide_eq_true c38
                  clear c38
                  obtain ⟨ji39, hji39⟩ : ∃ j_ : Int, (wrap64 (x8_2 - 1)) = j_ := ⟨_, rfl⟩
                  replace H : (if 0 ≤ (ji39) then (if (ji39) < (t155.length : Int) then (if 0 < ((rd_L2 t155 (ji39)).length : Int) then (if (rd (rd_L2 t155 x8_2) 0) < (rd (rd_L2 t155 (ji39)) 0) then (some false) else (if (rd (rd_L2 t155 x8_2) 0) = (rd (rd_L2 t155 (ji39)) 0) then (if 1 < ((rd_L2 t155 (ji39)).length : Int) then (if (rd (rd_L2 t155 x8_2) 1) ≤ (rd (rd_L2 t155 (ji39)) 1) then (some false) else (laws_FnTriAll.l0 k2 t154 t155 (wrap64 (x8_2 + 1)))) else (none)) else (laws_FnTriAll.l0 k2 t154 t155 (wrap64 (x8_2 + 1))))) else (none)) else (none)) else (none)) = some r := by first | (rw [hji39] at H; exact H) | (simp only [hji39] at H ⊢; exact H)
                  (try rw [hji39] at A25)
                  (try rw [hji39] at A36)
                  have hji39w : (IntKind.i64.wrap (x8_2 - 1)) = ji39 := (i64_w _).trans hji39
                  by_cases c40 : 0 ≤ (ji39)
                  ·rw [if_pos c40] at H
                   have c40b0 : decide (0 ≤ (ji39)) = true := decide_eq_true c40
                   clear c40
                   by_cases c41 : (ji39) < (t155.length : Int)
                   ·rw [if_pos c41] at H
                    have c41b0 : decide ((ji39) < (t155.length : Int)) = true := decide_eq_true c41
                    clear c41
                    by_cases c42 : 0 < ((rd_L2 t155 (ji39)).length : Int)
                    ·rw [if_pos c42] at H
                     have c42b0 : decide (0 < ((rd_L2 t155 (ji39)).length : Int)) = true := decide_eq_true c42
                     have c42b1 : decide (0 < (rd_L2 t155 (ji39)).length) = true := decide_eq_true (by omega)
                     clear c42
                     by_cases c43 : (rd (rd_L2 t155 x8_2) 0) < (rd (rd_L2 t155 (ji39)) 0)
                     ·rw [if_pos c43] at H
                      have c43b0 : decide ((rd (rd_L2 t155 x8_2) 0) < (rd (rd_L2 t155 (ji39)) 0)) = true := decide_eq_true c43
                      clear c43
                      obtain rfl := Option.some.inj H
                      obtain ⟨Ao44, co44, eo44⟩ := Kd.S_slice HO_4.out
                      subst eo44
                      have p165 : 0 ≤ (x8_2 : Int) := of_decide_eq_true (by first | (with_reducible assumption) | assumption)
                      have q165 : x8_2 < (t155.length : Int) := of_decide_eq_true (by first | (with_reducible assumption) | assumption)
                      obtain ⟨ad165, A165_0, c165_0, e165, hx165_0, hl165_0, hi165_0⟩ := at_L2 (Kd.S_reads' HO_4.out).2.2 x8_2 p165 q165
                      cases e165
                      obtain ⟨ce165, hce165, hMe165, hcc165⟩ := Kd.S_get HO_4.out [] x8_2 p165 (by first | exact q165 | exact of_decide_eq_true (by first | (with_reducible assumption) | assumption) | (have e_ := (Kd.S_reads' HO_4.out).1; omega))
                      obtain ⟨ve165_0, rfl, ge165_0⟩ := hMe165
                      have hv165_0 := hcc165 0 _ rfl
                      rw [Nat.add_zero, show ((Kd.slice 3 (Kd.int .i64))).sz = 1 from rfl, Nat.mul_one] at hv165_0
                      replace hv165_0 := Option.some.inj (hv165_0.symm.trans hx165_0)
                      rw [hv165_0] at ge165_0
                      have HL165_0 := Aside0.mk (show Kd.R (Kd.int .i64) 3 _ _ _ _ (rd_L2 t155 x8_2) from ge165_0)
                      clear hv165_0 ge165_0
                      clear hcc165 hce165
                      have HR165_0 := Aside0.mk hi165_0
                      have HC165_0 := Aside0.mk hl165_0
                      clear hi165_0 hl165_0
                      replace p165 := eq_true p165
                      replace q165 := eq_true q165
                      try go_wp2
                      have n0_ := Aside0.mk (Kd.S_drew HO_4.out)
                      have n1_ := Aside0.mk (Kd.R_drew HL165_0.out)
                      have n2_ := Aside0.mk (Kd.C_drew HR165_0.out)
                      have n3_ := Aside0.mk (below_drew1 HB.out)
                      clear HO_4
                      clear HL165_0
                      clear HR165_0
                      clear HB
                      have HO_4 := n0_
                      have HL165_0 := n1_
                      have HR165_0 := n2_
                      have HB := n3_
                      clear n0_ n1_ n2_ n3_
                      have p167 : 0 ≤ (0 : Int) := (by omega)
                      have q167 : 0 < ((rd_L2 t155 x8_2).length : Int) := of_decide_eq_true (by first | (with_reducible assumption) | assumption)
                      obtain ⟨ad167, e167, hx167_0⟩ := Kd.at_int (by repeat (first | (with_reducible exact HR165_0.out) | (with_reducible refine Kd.C_alloc ?_ _) | (with_reducible refine Kd.C_drewN ?_ _) | (with_reducible refine Kd.C_drew ?_) | exact HR165_0.out)) 0 p167 q167
                      cases e167
                      have qi167 : (0 < (rd_L2 t155 x8_2).length) = True := eq_true (by omega)
                      (try rw [show ((0 : Int)).toNat = 0 from rfl] at hx167_0)
                      (try rw [Addr.add_zero'] at hx167_0)
                      replace p167 := eq_true p167
                      replace q167 := eq_true q167
                      have p168 : 0 ≤ (1 : Int) := (by omega)
                      have q168 : 1 < ((rd_L2 t155 x8_2).length : Int) := of_decide_eq_true (by first | (with_reducible assumption) | assumption)
                      obtain ⟨ad168, e168, hx168_0⟩ := Kd.at_int (by repeat (first | (with_reducible exact HR165_0.out) | (with_reducible refine Kd.C_alloc ?_ _) | (with_reducible refine Kd.C_drewN ?_ _) | (with_reducible refine Kd.C_drew ?_) | exact HR165_0.out)) 1 p168 q168
                      obtain rfl : ad167 = ad168 := (by injection e168)
                      (try simp only [show (1 : Int).toNat = 1 from rfl, Nat.reduceMul, Nat.reduceEqDiff, Go.Addr.add, ↓reduceIte] at hx168_0)
                      have qi168 : (1 < (rd_L2 t155 x8_2).length) = True := eq_true (by omega)
                      (try rw [show ((1 : Int)).toNat = 1 from rfl] at hx168_0)
                      replace p168 := eq_true p168
                      replace q168 := eq_true q168
                      have p169 : 0 ≤ (1 : Int) := (by omega)
                      have q169 : 1 < ((rd_L2 t155 x8_2).length : Int) := of_decide_eq_true (by first | (with_reducible assumption) | assumption)
                      obtain ⟨ad169, e169, hx169_0⟩ := Kd.at_int (by repeat (first | (with_reducible exact HR165_0.out) | (with_reducible refine Kd.C_alloc ?_ _) | (with_reducible refine Kd.C_drewN ?_ _) | (with_reducible refine Kd.C_drew ?_) | exact HR165_0.out)) 1 p169 q169
                      obtain rfl : ad167 = ad169 := (by injection e169)
                      (try simp only [show (1 : Int).toNat = 1 from rfl, Nat.reduceMul, Nat.reduceEqDiff, Go.Addr.add, ↓reduceIte] at hx169_0)
                      have qi169 : (1 < (rd_L2 t155 x8_2).length) = True := eq_true (by omega)
                      (try rw [show ((1 : Int)).toNat = 1 from rfl] at hx169_0)
                      replace p169 := eq_true p169
                      replace q169 := eq_true q169
                      have p170 : 0 ≤ (2 : Int) := (by omega)
                      have q170 : 2 < ((rd_L2 t155 x8_2).length : Int) := of_decide_eq_true (by first | (with_reducible assumption) | assumption)
                      obtain ⟨ad170, e170, hx170_0⟩ := Kd.at_int (by repeat (first | (with_reducible exact HR165_0.out) | (with_reducible refine Kd.C_alloc ?_ _) | (with_reducible refine Kd.C_drewN ?_ _) | (with_reducible refine Kd.C_drew ?_) | exact HR165_0.out)) 2 p170 q170
                      obtain rfl : ad167 = ad170 := (by injection e170)
                      (try simp only [show (2 : Int).toNat = 2 from rfl, Nat.reduceMul, Nat.reduceEqDiff, Go.Addr.add, ↓reduceIte] at hx170_0)
                      have qi170 : (2 < (rd_L2 t155 x8_2).length) = True := eq_true (by omega)
                      (try rw [show ((2 : Int)).toNat = 2 from rfl] at hx170_0)
                      replace p170 := eq_true p170
                      replace q170 := eq_true q170
                      have p171 : 0 ≤ (0 : Int) := (by omega)
                      have q171 : 0 < ((rd_L2 t155 x8_2).length : Int) := of_decide_eq_true (by first | (with_reducible assumption) | assumption)
                      obtain ⟨ad171, e171, hx171_0⟩ := Kd.at_int (by repeat (first | (with_reducible exact HR165_0.out) | (with_reducible refine Kd.C_alloc ?_ _) | (with_reducible refine Kd.C_drewN ?_ _) | (with_reducible refine Kd.C_drew ?_) | exact HR165_0.out)) 0 p171 q171
                      obtain rfl : ad167 = ad171 := (by injection e171)
                      have qi171 : (0 < (rd_L2 t155 x8_2).length) = True := eq_true (by omega)
                      (try rw [show ((0 : Int)).toNat = 0 from rfl] at hx171_0)
                      (try rw [Addr.add_zero'] at hx171_0)
                      replace p171 := eq_true p171
                      replace q171 := eq_true q171
                      have p172 : 0 ≤ (1 : Int) := (by omega)
                      have q172 : 1 < ((rd_L2 t155 x8_2).length : Int) := of_decide_eq_true (by first | (with_reducible assumption) | assumption)
                      obtain ⟨ad172, e172, hx172_0⟩ := Kd.at_int (by repeat (first | (with_reducible exact HR165_0.out) | (with_reducible refine Kd.C_alloc ?_ _) | (with_reducible refine Kd.C_drewN ?_ _) | (with_reducible refine Kd.C_drew ?_) | exact HR165_0.out)) 1 p172 q172
                      obtain rfl : ad167 = ad172 := (by injection e172)
                      (try simp only [show (1 : Int).toNat = 1 from rfl, Nat.reduceMul, Nat.reduceEqDiff, Go.Addr.add, ↓reduceIte] at hx172_0)
                      have qi172 : (1 < (rd_L2 t155 x8_2).length) = True := eq_true (by omega)
                      (try rw [show ((1 : Int)).toNat = 1 from rfl] at hx172_0)
                      replace p172 := eq_true p172
                      replace q172 := eq_true q172
                      have p173 : 0 ≤ (2 : Int) := (by omega)
                      have q173 : 2 < ((rd_L2 t155 x8_2).length : Int) := of_decide_eq_true (by first | (with_reducible assumption) | assumption)
                      obtain ⟨ad173, e173, hx173_0⟩ := Kd.at_int (by repeat (first | (with_reducible exact HR165_0.out) | (with_reducible refine Kd.C_alloc ?_ _) | (with_reducible refine Kd.C_drewN ?_ _) | (with_reducible refine Kd.C_drew ?_) | exact HR165_0.out)) 2 p173 q173
                      obtain rfl : ad167 = ad173 := (by injection e173)
                      (try simp only [show (2 : Int).toNat = 2 from rfl, Nat.reduceMul, Nat.reduceEqDiff, Go.Addr.add, ↓reduceIte] at hx173_0)
                      have qi173 : (2 < (rd_L2 t155 x8_2).length) = True := eq_true (by omega)
                      (try rw [show ((2 : Int)).toNat = 2 from rfl] at hx173_0)
                      replace p173 := eq_true p173
                      replace q173 := eq_true q173
                      refine start_ (n := 40) (S := fun w' => w'.cell? ad167 = some (.int .i64 (rd (rd_L2 t155 x8_2) 0)) ∧ w'.cell? ⟨ad167.block, ad167.off + 1, none⟩ = some (.int .i64 (rd (rd_L2 t155 x8_2) 1)) ∧ w'.cell? ⟨ad167.block, ad167.off + 1, none⟩ = some (.int .i64 (rd (rd_L2 t155 x8_2) 1)) ∧ w'.cell? ⟨ad167.block, ad167.off + 2, none⟩ = some (.int .i64 (rd (rd_L2 t155 x8_2) 2)) ∧ w'.cell? ad167 = some (.int .i64 (rd (rd_L2 t155 x8_2) 0)) ∧ w'.cell? ⟨ad167.block, ad167.off + 1, none⟩ = some (.int .i64 (rd (rd_L2 t155 x8_2) 1)) ∧ w'.cell? ⟨ad167.block, ad167.off + 2, none⟩ = some (.int .i64 (rd (rd_L2 t155 x8_2) 2))) (ds := []) b0 (by kernel_rfl) rfl rfl ⟨hx167_0, hx168_0, hx169_0, hx170_0, hx171_0, hx172_0, hx173_0⟩ (fun hHeld => ?_); refine with_tabW laws_FnTriAll.tab12 laws_FnTriAll.bits12 (fun HT_ HW_ => ?_)
                      generalize wr.drew = w45 at HO_4 HL165_0 HR165_0 HB hHeld ⊢
                      refine pu 0 (some 56) b1 HT_ rfl rfl ?_
                      refine pu 1 (some 57) b2 HT_ rfl rfl ?_
                      refine pu 2 (some 58) b3 HT_ rfl rfl ?_
                      refine pu 3 (some 59) b4 HT_ rfl rfl ?_
                      refine pu 4 (some 60) b5 HT_ rfl rfl ?_
                      refine pu 6 (some 62) b6 HT_ rfl rfl ?_
                      refine one_ (i := 5) (N := some 61) b7 rfl rfl (one_of HT_.out (by kernel_rfl)) (by decide) (fun K hK => ?_)
                      refine goes_ Try.func11 (by kernel_rfl) rfl #[.slice _ (rd_L2 t155 x8_2).length c165_0] (by rfl) rfl rfl (by (try simp only [List.map_toArray, List.map_cons, List.map_nil]); first | done | rfl | (simp only [List.length_drop, List.length_take]; rfl)) ?_
                      with_reducible refine (laws_total.calls k2 _ _ (rd_L2 t155 x8_2) t166 _ ?side1 ?side2 A25.out).mono ?_
                      (case side1 => repeat (first | exact (by repeat (first | (with_reducible exact HR165_0.out) | (with_reducible refine Kd.C_alloc ?_ _) | (with_reducible refine Kd.C_drewN ?_ _) | (with_reducible refine Kd.C_drew ?_) | exact HR165_0.out)) | (with_reducible refine Kd.C_alloc ?_ _) | (with_reducible refine Kd.C_drewN ?_ _) | (with_reducible refine Kd.C_drew ?_)))
                      (case side2 => exact HC165_0.out)
                      rintro e w' ⟨rfl, ⟨nd, rfl⟩⟩
                      refine ⟨_, rfl, ?_⟩
                      refine hK.out _ _ ⟨hHeld.1, hHeld.2.1, hHeld.2.2.1, hHeld.2.2.2.1, hHeld.2.2.2.2.1, hHeld.2.2.2.2.2.1, hHeld.2.2.2.2.2.2⟩ (fun hHeld => ?_)
                      clear hK K
                      refine norm_ (a' := ?_) ?_ ?_
                      rotate_left
                      ·show Act.put _ (some 61) _ = _
                       simp only [Act.put, List.setIfInBounds_toArray, List.set_cons_zero, List.set_cons_succ, i64_w, i32_w]
                       rfl
                      refine pu 7 (some 63) b8 HT_ rfl rfl ?_
                      refine pu 8 (some 64) b9 HT_ rfl rfl ?_
                      refine pu 9 (some 65) b10 HT_ rfl rfl ?_
                      refine pu 10 (some 66) b11 HT_ rfl rfl ?_
                      refine pu 11 (some 67) b12 HT_ rfl rfl ?_
                      refine pu 13 (some 69) b13 HT_ rfl rfl ?_
                      refine pu 14 (some 70) b14 HT_ rfl rfl ?_
                      refine take_ (i := 12) (N := some 68) (v := ?_) (a' := ?_) b15 rfl rfl (take_ofW HT_.out HW_.out (by kernel_rfl)) (fun _ _ _ h => h) (Or.inl ⟨by rfl, ?_⟩) hHeld ?_ ?_
                      rotate_left
                      ·rintro w' ⟨s0, s1, s2, s3, s4, s5, s6⟩
                       go_simp
                       with_reducible rfl
                      rotate_left
                      ·simp only [Act.put, List.setIfInBounds_toArray, List.set_cons_zero, List.set_cons_succ, i64_w, i32_w]
                       rfl
                      refine take_ (i := 15) (N := some 71) (v := ?_) (a' := ?_) b16 rfl rfl (take_ofW HT_.out HW_.out (by kernel_rfl)) (fun _ _ _ h => h) (Or.inl ⟨by rfl, ?_⟩) hHeld ?_ ?_
                      rotate_left
                      ·rintro w' ⟨s0, s1, s2, s3, s4, s5, s6⟩
                       go_simp
                       with_reducible rfl
                      rotate_left
                      ·simp only [Act.put, List.setIfInBounds_toArray, List.set_cons_zero, List.set_cons_succ, i64_w, i32_w]
                       rfl
                      refine pu 16 (some 72) b17 HT_ rfl rfl ?_
                      refine pu 17 (some 73) b18 HT_ rfl rfl ?_
                      refine pu 18 (some 74) b19 HT_ rfl rfl ?_
                      refine pu 19 (some 75) b20 HT_ rfl rfl ?_
                      refine pu 20 (some 76) b21 HT_ rfl rfl ?_
                      refine pu 22 (some 78) b41 HT_ rfl rfl ?_
                      refine pu 23 (some 79) b42 HT_ rfl rfl ?_
                      refine take_ (i := 21) (N := some 77) (v := ?_) (a' := ?_) b24 rfl rfl (take_ofW HT_.out HW_.out (by kernel_rfl)) (fun _ _ _ h => h) (Or.inl ⟨by rfl, ?_⟩) hHeld ?_ ?_
                      rotate_left
                      ·rintro w' ⟨s0, s1, s2, s3, s4, s5, s6⟩
                       go_simp
                       with_reducible rfl
                      rotate_left
                      ·simp only [Act.put, List.setIfInBounds_toArray, List.set_cons_zero, List.set_cons_succ, i64_w, i32_w]
                       rfl
                      refine take_ (i := 24) (N := some 80) (v := ?_) (a' := ?_) b25 rfl rfl (take_ofW HT_.out HW_.out (by kernel_rfl)) (fun _ _ _ h => h) (Or.inl ⟨by rfl, ?_⟩) hHeld ?_ ?_
                      rotate_left
                      ·rintro w' ⟨s0, s1, s2, s3, s4, s5, s6⟩
                       go_simp
                       with_reducible rfl
                      rotate_left
                      ·simp only [Act.put, List.setIfInBounds_toArray, List.set_cons_zero, List.set_cons_succ, i64_w, i32_w]
                       rfl
                      refine pu 25 (some 81) b26 HT_ rfl rfl ?_
                      refine pu 26 (some 82) b27 HT_ rfl rfl ?_
                      refine pu 27 (some 83) b28 HT_ rfl rfl ?_
                      refine pu 28 (some 84) b29 HT_ rfl rfl ?_
                      refine pu 29 (some 85) b30 HT_ rfl rfl ?_
                      refine pu 31 (some 87) b43 HT_ rfl rfl ?_
                      refine pu 32 (some 88) b44 HT_ rfl rfl ?_
                      refine pu 34 (some 90) b45 HT_ rfl rfl ?_
                      refine pu 35 (some 91) b46 HT_ rfl rfl ?_
                      refine take_ (i := 30) (N := some 86) (v := ?_) (a' := ?_) b47 rfl rfl (take_ofW HT_.out HW_.out (by kernel_rfl)) (fun _ _ _ h => h) (Or.inl ⟨by rfl, ?_⟩) hHeld ?_ ?_
                      rotate_left
                      ·rintro w' ⟨s0, s1, s2, s3, s4, s5, s6⟩
                       go_simp
                       with_reducible rfl
                      rotate_left
                      ·simp only [Act.put, List.setIfInBounds_toArray, List.set_cons_zero, List.set_cons_succ, i64_w, i32_w]
                       rfl
                      refine take_ (i := 33) (N := some 89) (v := ?_) (a' := ?_) b36 rfl rfl (take_ofW HT_.out HW_.out (by kernel_rfl)) (fun _ _ _ h => h) (Or.inl ⟨by rfl, ?_⟩) hHeld ?_ ?_
                      rotate_left
                      ·rintro w' ⟨s0, s1, s2, s3, s4, s5, s6⟩
                       go_simp
                       with_reducible rfl
                      rotate_left
                      ·simp only [Act.put, List.setIfInBounds_toArray, List.set_cons_zero, List.set_cons_succ, i64_w, i32_w]
                       rfl
                      refine take_ (i := 36) (N := some 92) (v := ?_) (a' := ?_) b37 rfl rfl (take_ofW HT_.out HW_.out (by kernel_rfl)) (fun _ _ _ h => h) (Or.inl ⟨by rfl, ?_⟩) hHeld ?_ ?_
                      rotate_left
                      ·rintro w' ⟨s0, s1, s2, s3, s4, s5, s6⟩
                       go_simp
                       with_reducible rfl
                      rotate_left
                      ·simp only [Act.put, List.setIfInBounds_toArray, List.set_cons_zero, List.set_cons_succ, i64_w, i32_w]
                       rfl
                      refine one_ (i := 37) (N := some 93) b38 rfl rfl (one_of HT_.out (by kernel_rfl)) (by decide) (fun K hK => ?_)
                      refine goes_ Try.func12 (by kernel_rfl) rfl #[.int .i64 (rd (rd_L2 t155 x8_2) 0), .int .i64 (rd (rd_L2 t155 x8_2) 1), .int .i64 (rd (rd_L2 t155 x8_2) 2)] (by rfl) rfl rfl (by (try simp only [List.map_toArray, List.map_cons, List.map_nil]); first | done | rfl | (simp only [List.length_drop, List.length_take]; rfl)) ?_
                      with_reducible refine (impl_StickThree.calls k2 (rd (rd_L2 t155 x8_2) 0) (rd (rd_L2 t155 x8_2) 1) (rd (rd_L2 t155 x8_2) 2) true _ A36.out).mono ?_
                      rintro e w46 ⟨rfl, hb⟩
                      have HS0_ := (hb.cell (World.block_lt_of_cell? _ _ (hHeld.1))).trans (hHeld.1)
                      have HS1_ := (hb.cell (World.block_lt_of_cell? _ _ (hHeld.2.1))).trans (hHeld.2.1)
                      have HS2_ := (hb.cell (World.block_lt_of_cell? _ _ (hHeld.2.2.1))).trans (hHeld.2.2.1)
                      have HS3_ := (hb.cell (World.block_lt_of_cell? _ _ (hHeld.2.2.2.1))).trans (hHeld.2.2.2.1)
                      have HS4_ := (hb.cell (World.block_lt_of_cell? _ _ (hHeld.2.2.2.2.1))).trans (hHeld.2.2.2.2.1)
                      have HS5_ := (hb.cell (World.block_lt_of_cell? _ _ (hHeld.2.2.2.2.2.1))).trans (hHeld.2.2.2.2.2.1)
                      have HS6_ := (hb.cell (World.block_lt_of_cell? _ _ (hHeld.2.2.2.2.2.2))).trans (hHeld.2.2.2.2.2.2)
                      refine ⟨_, rfl, ?_⟩
                      have n0_ := Aside0.mk (Kd.S_below (by (with_reducible repeat (first | apply Kd.S_alloc | apply Kd.S_drewN | apply Kd.S_drew)); exact HO_4.out) hb)
                      have n1_ := Aside0.mk (Kd.R_below (by (with_reducible repeat (first | apply Kd.R_alloc | apply Kd.R_drewN | apply Kd.R_drew)); exact HL165_0.out) hb)
                      have n2_ := Aside0.mk (Kd.C_below (by (with_reducible repeat (first | apply Kd.C_alloc | apply Kd.C_drewN | apply Kd.C_drew)); exact HR165_0.out) hb)
                      have n3_ := Aside0.mk (below_step (by repeat (first | (with_reducible first | exact HB.out | apply below_alloc | apply pw_below_drewN | apply below_drew1) | exact HB.out)) hb)
                      clear HO_4
                      clear HL165_0
                      clear HR165_0
                      clear HB
                      have HO_4 := n0_
                      have HL165_0 := n1_
                      have HR165_0 := n2_
                      have HB := n3_
                      clear n0_ n1_ n2_ n3_
                      (try clear hb)
                      (try clear hb2)
                      (try clear hk)
                      (try clear hi)
                      refine hK.out _ _ ⟨HS0_, HS1_, HS2_, HS3_, HS4_, HS5_, HS6_⟩ (fun hHeld => ?_)
                      clear hK K
                      refine norm_ (a' := ?_) ?_ ?_
                      rotate_left
                      ·show Act.put _ (some 93) _ = _
                       simp only [Act.put, List.setIfInBounds_toArray, List.set_cons_zero, List.set_cons_succ, i64_w, i32_w]
                       rfl
                      refine pu 38 (some 94) b39 HT_ rfl rfl ?_
                      refine pu 39 (some 95) b40 HT_ rfl rfl ?_
                      refine done_ (done_of HT_.out (by kernel_rfl)) ?_
                      try go_wp2
                      have n0_ := Aside0.mk (Kd.S_drew HO_4.out)
                      have n1_ := Aside0.mk (Kd.R_drew HL165_0.out)
                      have n2_ := Aside0.mk (Kd.C_drew HR165_0.out)
                      have n3_ := Aside0.mk (below_drew1 HB.out)
                      clear HO_4
                      clear HL165_0
                      clear HR165_0
                      clear HB
                      have HO_4 := n0_
                      have HL165_0 := n1_
                      have HR165_0 := n2_
                      have HB := n3_
                      clear n0_ n1_ n2_ n3_
                      have p175 : 0 ≤ (0 : Int) := (by omega)
                      have q175 : 0 < ((rd_L2 t155 x8_2).length : Int) := of_decide_eq_true (by first | (with_reducible assumption) | assumption)
                      obtain ⟨ad175, e175, hx175_0⟩ := Kd.at_int (by repeat (first | (with_reducible exact HR165_0.out) | (with_reducible refine Kd.C_alloc ?_ _) | (with_reducible refine Kd.C_drewN ?_ _) | (with_reducible refine Kd.C_drew ?_) | exact HR165_0.out)) 0 p175 q175
                      obtain rfl : ad167 = ad175 := (by injection e175)
                      have qi175 : (0 < (rd_L2 t155 x8_2).length) = True := eq_true (by omega)
                      (try rw [show ((0 : Int)).toNat = 0 from rfl] at hx175_0)
                      (try rw [Addr.add_zero'] at hx175_0)
                      replace p175 := eq_true p175
                      replace q175 := eq_true q175
                      have p176 : 0 ≤ ((ji39) : Int) := of_decide_eq_true (by first | (with_reducible assumption) | assumption)
                      have q176 : (ji39) < (t155.length : Int) := of_decide_eq_true (by first | (with_reducible assumption) | assumption)
                      obtain ⟨ad176, A176_0, c176_0, e176, hx176_0, hl176_0, hi176_0⟩ := at_L2 (Kd.S_reads' HO_4.out).2.2 (ji39) p176 q176
                      obtain rfl : ad165 = ad176 := (by injection e176)
                      obtain ⟨ce176, hce176, hMe176, hcc176⟩ := Kd.S_get HO_4.out [] (ji39) p176 (by first | exact q176 | exact of_decide_eq_true (by first | (with_reducible assumption) | assumption) | (have e_ := (Kd.S_reads' HO_4.out).1; omega))
                      obtain ⟨ve176_0, rfl, ge176_0⟩ := hMe176
                      have hv176_0 := hcc176 0 _ rfl
                      rw [Nat.add_zero, show ((Kd.slice 3 (Kd.int .i64))).sz = 1 from rfl, Nat.mul_one] at hv176_0
                      replace hv176_0 := Option.some.inj (hv176_0.symm.trans hx176_0)
                      rw [hv176_0] at ge176_0
                      have HL176_0 := Aside0.mk (show Kd.R (Kd.int .i64) 3 _ _ _ _ (rd_L2 t155 (ji39)) from ge176_0)
                      clear hv176_0 ge176_0
                      clear hcc176 hce176
                      have HR176_0 := Aside0.mk hi176_0
                      have HC176_0 := Aside0.mk hl176_0
                      clear hi176_0 hl176_0
                      replace p176 := eq_true p176
                      replace q176 := eq_true q176
                      have p177 : 0 ≤ (0 : Int) := (by omega)
                      have q177 : 0 < ((rd_L2 t155 (ji39)).length : Int) := of_decide_eq_true (by first | (with_reducible assumption) | assumption)
                      obtain ⟨ad177, e177, hx177_0⟩ := Kd.at_int (by repeat (first | (with_reducible exact HR176_0.out) | (with_reducible refine Kd.C_alloc ?_ _) | (with_reducible refine Kd.C_drewN ?_ _) | (with_reducible refine Kd.C_drew ?_) | exact HR176_0.out)) 0 p177 q177
                      cases e177
                      have qi177 : (0 < (rd_L2 t155 (ji39)).length) = True := eq_true (by omega)
                      (try rw [show ((0 : Int)).toNat = 0 from rfl] at hx177_0)
                      (try rw [Addr.add_zero'] at hx177_0)
                      replace p177 := eq_true p177
                      replace q177 := eq_true q177
                      refine start_ (n := 41) (S := fun w' => w'.cell? ad167 = some (.int .i64 (rd (rd_L2 t155 x8_2) 0)) ∧ w'.cell? (ad165.add ((ji39)).toNat) = some (.slice (some ad177) (rd_L2 t155 (ji39)).length c176_0) ∧ w'.cell? ad177 = some (.int .i64 (rd (rd_L2 t155 (ji39)) 0))) (ds := []) b48 (by kernel_rfl) rfl rfl ⟨hx175_0, hx176_0, hx177_0⟩ (fun hHeld => ?_); refine with_tabW laws_FnTriAll.tab14 laws_FnTriAll.bits14 (fun HT_ HW_ => ?_)
                      generalize w46.drew = w47 at HO_4 HL165_0 HR165_0 HB HL176_0 HR176_0 hx175_0 hx176_0 hx177_0 hHeld ⊢
                      refine pu 0 (some 96) b49 HT_ rfl rfl ?_
                      refine pu 1 (some 97) b50 HT_ rfl rfl ?_
                      refine pu 2 (some 98) b51 HT_ rfl rfl ?_
                      refine pu 3 (some 99) b52 HT_ rfl rfl ?_
                      refine pu 4 (some 100) b53 HT_ rfl rfl ?_
                      refine pu 6 (some 102) b54 HT_ rfl rfl ?_
                      refine pu 7 (some 103) b55 HT_ rfl rfl ?_
                      refine pu 8 (some 104) b56 HT_ rfl rfl ?_
                      refine pu 9 (some 105) b57 HT_ rfl rfl ?_
                      refine take_ (i := 5) (N := some 101) (v := ?_) (a' := ?_) b58 rfl rfl (take_ofW HT_.out HW_.out (by kernel_rfl)) (fun _ _ _ h => h) (Or.inl ⟨by rfl, ?_⟩) hHeld ?_ ?_
                      rotate_left
                      ·rintro w' ⟨s0, s1, s2⟩
                       go_simp
                       with_reducible rfl
                      rotate_left
                      ·simp only [Act.put, List.setIfInBounds_toArray, List.set_cons_zero, List.set_cons_succ, i64_w, i32_w]
                       rfl
                      refine take_ (i := 10) (N := some 106) (v := ?_) (a' := ?_) b59 rfl rfl (take_ofW HT_.out HW_.out (by kernel_rfl)) (fun _ _ _ h => h) (Or.inl ⟨by rfl, ?_⟩) hHeld ?_ ?_
                      rotate_left
                      ·rintro w' ⟨s0, s1, s2⟩
                       go_simp
                       with_reducible rfl
                      rotate_left
                      ·simp only [Act.put, List.setIfInBounds_toArray, List.set_cons_zero, List.set_cons_succ, i64_w, i32_w]
                       rfl
                      refine pu 11 (some 107) b60 HT_ rfl rfl ?_
                      refine take_ (i := 12) (N := some 108) (v := ?_) (a' := ?_) b61 rfl rfl (take_ofW HT_.out HW_.out (by kernel_rfl)) (fun _ _ _ h => h) (Or.inl ⟨by rfl, ?_⟩) hHeld ?_ ?_
                      rotate_left
                      ·rintro w' ⟨s0, s1, s2⟩
                       go_simp
                       with_reducible rfl
                      rotate_left
                      ·simp only [Act.put, List.setIfInBounds_toArray, List.set_cons_zero, List.set_cons_succ, i64_w, i32_w]
                       rfl
                      refine pu 13 (some 109) b62 HT_ rfl rfl ?_
                      refine pu 14 (some 110) b63 HT_ rfl rfl ?_
                      refine pn 15 (some 111) b64 HT_ rfl rfl ?_
                      refine pn 16 (some 112) b65 HT_ rfl rfl ?_
                      refine pn 17 (some 113) b66 HT_ rfl rfl ?_
                      refine pn 18 (some 114) b67 HT_ rfl rfl ?_
                      refine pn 19 (some 115) b68 HT_ rfl rfl ?_
                      refine pn 20 (some 116) b69 HT_ rfl rfl ?_
                      refine pn 21 (some 117) b70 HT_ rfl rfl ?_
                      refine pn 22 (some 118) b71 HT_ rfl rfl ?_
                      refine pn 23 (some 119) b72 HT_ rfl rfl ?_
                      refine pn 24 (some 120) b73 HT_ rfl rfl ?_
                      refine pn 25 (some 121) b74 HT_ rfl rfl ?_
                      refine pn 26 (some 122) b75 HT_ rfl rfl ?_
                      refine pn 27 (some 123) b76 HT_ rfl rfl ?_
                      refine pn 28 (some 124) b77 HT_ rfl rfl ?_
                      refine pn 29 (some 125) b78 HT_ rfl rfl ?_
                      refine pn 30 (some 126) b79 HT_ rfl rfl ?_
                      refine pn 31 (some 127) b80 HT_ rfl rfl ?_
                      refine pn 32 (some 128) b81 HT_ rfl rfl ?_
                      refine pn 33 (some 129) b82 HT_ rfl rfl ?_
                      refine pn 34 (some 130) b83 HT_ rfl rfl ?_
                      refine pn 35 (some 131) b84 HT_ rfl rfl ?_
                      refine pn 36 (some 132) b85 HT_ rfl rfl ?_
                      refine pn 37 (some 133) b86 HT_ rfl rfl ?_
                      refine pn 38 (some 134) b87 HT_ rfl rfl ?_
                      refine pu 39 (some 135) b88 HT_ rfl rfl ?_
                      refine pu 40 (some 136) b89 HT_ rfl rfl ?_
                      refine done_ (done_of HT_.out (by kernel_rfl)) ?_
                      try go_wp2
                      go_ret
                      exact ⟨by first | rfl | (simp [errW_none, errW_some] <;> rfl) | (simp only [← hji39]; first | rfl | (simp [errW_none, errW_some] <;> rfl)) | (simp [*, errW_none, errW_some] <;> rfl), by repeat (first | (with_reducible first | exact HB.out | apply below_alloc | apply pw_below_drewN | apply below_drew1) | exact HB.out)⟩
                     ·rw [if_neg c43] at H
                      have c43b0 : decide ((rd (rd_L2 t155 x8_2) 0) < (rd (rd_L2 t155 (ji39)) 0)) = false := decide_eq_false c43
                      clear c43
                      by_cases c48 : (rd (rd_L2 t155 x8_2) 0) = (rd (rd_L2 t155 (ji39)) 0)
                      ·rw [if_pos c48] at H
                       have c48b0 : ((rd (rd_L2 t155 x8_2) 0) == (rd (rd_L2 t155 (ji39)) 0)) = true := beq_iff_eq.mpr c48
                       have c48b1 : ((rd (rd_L2 t155 x8_2) 0) != (rd (rd_L2 t155 (ji39)) 0)) = false := bne_eq_false_iff_eq.mpr c48
                       clear c48
                       by_cases c49 : 1 < ((rd_L2 t155 (ji39)).length : Int)
                       ·rw [if_pos c49] at H
                        have c49b0 : decide (1 < ((rd_L2 t155 (ji39)).length : Int)) = true := decide_eq_true c49
                        have c49b1 : decide (1 < (rd_L2 t155 (ji39)).length) = true := decide_eq_true (by omega)
                        clear c49
                        by_cases c50 : (rd (rd_L2 t155 x8_2) 1) ≤ (rd (rd_L2 t155 (ji39)) 1)
                        ·rw [if_pos c50] at H
                         have c50b0 : decide ((rd (rd_L2 t155 x8_2) 1) ≤ (rd (rd_L2 t155 (ji39)) 1)) = true := decide_eq_true c50
                         clear c50
                         obtain rfl := Option.some.inj H
                         obtain ⟨Ao51, co51, eo51⟩ := Kd.S_slice HO_4.out
                         subst eo51
                         have p165 : 0 ≤ (x8_2 : Int) := of_decide_eq_true (by first | (with_reducible assumption) | assumption)
                         have q165 : x8_2 < (t155.length : Int) := of_decide_eq_true (by first | (with_reducible assumption) | assumption)
                         obtain ⟨ad165, A165_0, c165_0, e165, hx165_0, hl165_0, hi165_0⟩ := at_L2 (Kd.S_reads' HO_4.out).2.2 x8_2 p165 q165
                         cases e165
                         obtain ⟨ce165, hce165, hMe165, hcc165⟩ := Kd.S_get HO_4.out [] x8_2 p165 (by first | exact q165 | exact of_decide_eq_true (by first | (with_reducible assumption) | assumption) | (have e_ := (Kd.S_reads' HO_4.out).1; omega))
                         obtain ⟨ve165_0, rfl, ge165_0⟩ := hMe165
                         have hv165_0 := hcc165 0 _ rfl
                         rw [Nat.add_zero, show ((Kd.slice 3 (Kd.int .i64))).sz = 1 from rfl, Nat.mul_one] at hv165_0
                         replace hv165_0 := Option.some.inj (hv165_0.symm.trans hx165_0)
                         rw [hv165_0] at ge165_0
                         have HL165_0 := Aside0.mk (show Kd.R (Kd.int .i64) 3 _ _ _ _ (rd_L2 t155 x8_2) from ge165_0)
                         clear hv165_0 ge165_0
                         clear hcc165 hce165
                         have HR165_0 := Aside0.mk hi165_0
                         have HC165_0 := Aside0.mk hl165_0
                         clear hi165_0 hl165_0
                         replace p165 := eq_true p165
                         replace q165 := eq_true q165
                         try go_wp2
                         have n0_ := Aside0.mk (Kd.S_drew HO_4.out)
                         have n1_ := Aside0.mk (Kd.R_drew HL165_0.out)
                         have n2_ := Aside0.mk (Kd.C_drew HR165_0.out)
                         have n3_ := Aside0.mk (below_drew1 HB.out)
                         clear HO_4
                         clear HL165_0
                         clear HR165_0
                         clear HB
                         have HO_4 := n0_
                         have HL165_0 := n1_
                         have HR165_0 := n2_
                         have HB := n3_
                         clear n0_ n1_ n2_ n3_
                         have p167 : 0 ≤ (0 : Int) := (by omega)
                         have q167 : 0 < ((rd_L2 t155 x8_2).length : Int) := of_decide_eq_true (by first | (with_reducible assumption) | assumption)
                         obtain ⟨ad167, e167, hx167_0⟩ := Kd.at_int (by repeat (first | (with_reducible exact HR165_0.out) | (with_reducible refine Kd.C_alloc ?_ _) | (with_reducible refine Kd.C_drewN ?_ _) | (with_reducible refine Kd.C_drew ?_) | exact HR165_0.out)) 0 p167 q167
                         cases e167
                         have qi167 : (0 < (rd_L2 t155 x8_2).length) = True := eq_true (by omega)
                         (try rw [show ((0 : Int)).toNat = 0 from rfl] at hx167_0)
                         (try rw [Addr.add_zero'] at hx167_0)
                         replace p167 := eq_true p167
                         replace q167 := eq_true q167
                         have p168 : 0 ≤ (1 : Int) := (by omega)
                         have q168 : 1 < ((rd_L2 t155 x8_2).length : Int) := of_decide_eq_true (by first | (with_reducible assumption) | assumption)
                         obtain ⟨ad168, e168, hx168_0⟩ := Kd.at_int (by repeat (first | (with_reducible exact HR165_0.out) | (with_reducible refine Kd.C_alloc ?_ _) | (with_reducible refine Kd.C_drewN ?_ _) | (with_reducible refine Kd.C_drew ?_) | exact HR165_0.out)) 1 p168 q168
                         obtain rfl : ad167 = ad168 := (by injection e168)
                         (try simp only [show (1 : Int).toNat = 1 from rfl, Nat.reduceMul, Nat.reduceEqDiff, Go.Addr.add, ↓reduceIte] at hx168_0)
                         have qi168 : (1 < (rd_L2 t155 x8_2).length) = True := eq_true (by omega)
                         (try rw [show ((1 : Int)).toNat = 1 from rfl] at hx168_0)
                         replace p168 := eq_true p168
                         replace q168 := eq_true q168
                         have p169 : 0 ≤ (1 : Int) := (by omega)
                         have q169 : 1 < ((rd_L2 t155 x8_2).length : Int) := of_decide_eq_true (by first | (with_reducible assumption) | assumption)
                         obtain ⟨ad169, e169, hx169_0⟩ := Kd.at_int (by repeat (first | (with_reducible exact HR165_0.out) | (with_reducible refine Kd.C_alloc ?_ _) | (with_reducible refine Kd.C_drewN ?_ _) | (with_reducible refine Kd.C_drew ?_) | exact HR165_0.out)) 1 p169 q169
                         obtain rfl : ad167 = ad169 := (by injection e169)
                         (try simp only [show (1 : Int).toNat = 1 from rfl, Nat.reduceMul, Nat.reduceEqDiff, Go.Addr.add, ↓reduceIte] at hx169_0)
                         have qi169 : (1 < (rd_L2 t155 x8_2).length) = True := eq_true (by omega)
                         (try rw [show ((1 : Int)).toNat = 1 from rfl] at hx169_0)
                         replace p169 := eq_true p169
                         replace q169 := eq_true q169
                         have p170 : 0 ≤ (2 : Int) := (by omega)
                         have q170 : 2 < ((rd_L2 t155 x8_2).length : Int) := of_decide_eq_true (by first | (with_reducible assumption) | assumption)
                         obtain ⟨ad170, e170, hx170_0⟩ := Kd.at_int (by repeat (first | (with_reducible exact HR165_0.out) | (with_reducible refine Kd.C_alloc ?_ _) | (with_reducible refine Kd.C_drewN ?_ _) | (with_reducible refine Kd.C_drew ?_) | exact HR165_0.out)) 2 p170 q170
                         obtain rfl : ad167 = ad170 := (by injection e170)
                         (try simp only [show (2 : Int).toNat = 2 from rfl, Nat.reduceMul, Nat.reduceEqDiff, Go.Addr.add, ↓reduceIte] at hx170_0)
                         have qi170 : (2 < (rd_L2 t155 x8_2).length) = True := eq_true (by omega)
                         (try rw [show ((2 : Int)).toNat = 2 from rfl] at hx170_0)
                         replace p170 := eq_true p170
                         replace q170 := eq_true q170
                         have p171 : 0 ≤ (0 : Int) := (by omega)
                         have q171 : 0 < ((rd_L2 t155 x8_2).length : Int) := of_decide_eq_true (by first | (with_reducible assumption) | assumption)
                         obtain ⟨ad171, e171, hx171_0⟩ := Kd.at_int (by repeat (first | (with_reducible exact HR165_0.out) | (with_reducible refine Kd.C_alloc ?_ _) | (with_reducible refine Kd.C_drewN ?_ _) | (with_reducible refine Kd.C_drew ?_) | exact HR165_0.out)) 0 p171 q171
                         obtain rfl : ad167 = ad171 := (by injection e171)
                         have qi171 : (0 < (rd_L2 t155 x8_2).length) = True := eq_true (by omega)
                         (try rw [show ((0 : Int)).toNat = 0 from rfl] at hx171_0)
                         (try rw [Addr.add_zero'] at hx171_0)
                         replace p171 := eq_true p171
                         replace q171 := eq_true q171
                         have p172 : 0 ≤ (1 : Int) := (by omega)
                         have q172 : 1 < ((rd_L2 t155 x8_2).length : Int) := of_decide_eq_true (by first | (with_reducible assumption) | assumption)
                         obtain ⟨ad172, e172, hx172_0⟩ := Kd.at_int (by repeat (first | (with_reducible exact HR165_0.out) | (with_reducible refine Kd.C_alloc ?_ _) | (with_reducible refine Kd.C_drewN ?_ _) | (with_reducible refine Kd.C_drew ?_) | exact HR165_0.out)) 1 p172 q172
                         obtain rfl : ad167 = ad172 := (by injection e172)
                         (try simp only [show (1 : Int).toNat = 1 from rfl, Nat.reduceMul, Nat.reduceEqDiff, Go.Addr.add, ↓reduceIte] at hx172_0)
                         have qi172 : (1 < (rd_L2 t155 x8_2).length) = True := eq_true (by omega)
                         (try rw [show ((1 : Int)).toNat = 1 from rfl] at hx172_0)
                         replace p172 := eq_true p172
                         replace q172 := eq_true q172
                         have p173 : 0 ≤ (2 : Int) := (by omega)
                         have q173 : 2 < ((rd_L2 t155 x8_2).length : Int) := of_decide_eq_true (by first | (with_reducible assumption) | assumption)
                         obtain ⟨ad173, e173, hx173_0⟩ := Kd.at_int (by repeat (first | (with_reducible exact HR165_0.out) | (with_reducible refine Kd.C_alloc ?_ _) | (with_reducible refine Kd.C_drewN ?_ _) | (with_reducible refine Kd.C_drew ?_) | exact HR165_0.out)) 2 p173 q173
                         obtain rfl : ad167 = ad173 := (by injection e173)
                         (try simp only [show (2 : Int).toNat = 2 from rfl, Nat.reduceMul, Nat.reduceEqDiff, Go.Addr.add, ↓reduceIte] at hx173_0)
                         have qi173 : (2 < (rd_L2 t155 x8_2).length) = True := eq_true (by omega)
                         (try rw [show ((2 : Int)).toNat = 2 from rfl] at hx173_0)
                         replace p173 := eq_true p173
                         replace q173 := eq_true q173
                         refine start_ (n := 40) (S := fun w' => w'.cell? ad167 = some (.int .i64 (rd (rd_L2 t155 x8_2) 0)) ∧ w'.cell? ⟨ad167.block, ad167.off + 1, none⟩ = some (.int .i64 (rd (rd_L2 t155 x8_2) 1)) ∧ w'.cell? ⟨ad167.block, ad167.off + 1, none⟩ = some (.int .i64 (rd (rd_L2 t155 x8_2) 1)) ∧ w'.cell? ⟨ad167.block, ad167.off + 2, none⟩ = some (.int .i64 (rd (rd_L2 t155 x8_2) 2)) ∧ w'.cell? ad167 = some (.int .i64 (rd (rd_L2 t155 x8_2) 0)) ∧ w'.cell? ⟨ad167.block, ad167.off + 1, none⟩ = some (.int .i64 (rd (rd_L2 t155 x8_2) 1)) ∧ w'.cell? ⟨ad167.block, ad167.off + 2, none⟩ = some (.int .i64 (rd (rd_L2 t155 x8_2) 2))) (ds := []) b0 (by kernel_rfl) rfl rfl ⟨hx167_0, hx168_0, hx169_0, hx170_0, hx171_0, hx172_0, hx173_0⟩ (fun hHeld => ?_); refine with_tabW laws_FnTriAll.tab12 laws_FnTriAll.bits12 (fun HT_ HW_ => ?_)
                         generalize wr.drew = w52 at HO_4 HL165_0 HR165_0 HB hHeld ⊢
                         refine pu 0 (some 56) b1 HT_ rfl rfl ?_
                         refine pu 1 (some 57) b2 HT_ rfl rfl ?_
                         refine pu 2 (some 58) b3 HT_ rfl rfl ?_
                         refine pu 3 (some 59) b4 HT_ rfl rfl ?_
                         refine pu 4 (some 60) b5 HT_ rfl rfl ?_
                         refine pu 6 (some 62) b6 HT_ rfl rfl ?_
                         refine one_ (i := 5) (N := some 61) b7 rfl rfl (one_of HT_.out (by kernel_rfl)) (by decide) (fun K hK => ?_)
                         refine goes_ Try.func11 (by kernel_rfl) rfl #[.slice _ (rd_L2 t155 x8_2).length c165_0] (by rfl) rfl rfl (by (try simp only [List.map_toArray, List.map_cons, List.map_nil]); first | done | rfl | (simp only [List.length_drop, List.length_take]; rfl)) ?_
                         with_reducible refine (laws_total.calls k2 _ _ (rd_L2 t155 x8_2) t166 _ ?side1 ?side2 A25.out).mono ?_
                         (case side1 => repeat (first | exact (by repeat (first | (with_reducible exact HR165_0.out) | (with_reducible refine Kd.C_alloc ?_ _) | (with_reducible refine Kd.C_drewN ?_ _) | (with_reducible refine Kd.C_drew ?_) | exact HR165_0.out)) | (with_reducible refine Kd.C_alloc ?_ _) | (with_reducible refine Kd.C_drewN ?_ _) | (with_reducible refine Kd.C_drew ?_)))
                         (case side2 => exact HC165_0.out)
                         rintro e w' ⟨rfl, ⟨nd, rfl⟩⟩
                         refine ⟨_, rfl, ?_⟩
                         refine hK.out _ _ ⟨hHeld.1, hHeld.2.1, hHeld.2.2.1, hHeld.2.2.2.1, hHeld.2.2.2.2.1, hHeld.2.2.2.2.2.1, hHeld.2.2.2.2.2.2⟩ (fun hHeld => ?_)
                         clear hK K
                         refine norm_ (a' := ?_) ?_ ?_
                         rotate_left
                         ·show Act.put _ (some 61) _ = _
                          simp only [Act.put, List.setIfInBounds_toArray, List.set_cons_zero, List.set_cons_succ, i64_w, i32_w]
                          rfl
                         refine pu 7 (some 63) b8 HT_ rfl rfl ?_
                         refine pu 8 (some 64) b9 HT_ rfl rfl ?_
                         refine pu 9 (some 65) b10 HT_ rfl rfl ?_
                         refine pu 10 (some 66) b11 HT_ rfl rfl ?_
                         refine pu 11 (some 67) b12 HT_ rfl rfl ?_
                         refine pu 13 (some 69) b13 HT_ rfl rfl ?_
                         refine pu 14 (some 70) b14 HT_ rfl rfl ?_
                         refine take_ (i := 12) (N := some 68) (v := ?_) (a' := ?_) b15 rfl rfl (take_ofW HT_.out HW_.out (by kernel_rfl)) (fun _ _ _ h => h) (Or.inl ⟨by rfl, ?_⟩) hHeld ?_ ?_
                         rotate_left
                         ·rintro w' ⟨s0, s1, s2, s3, s4, s5, s6⟩
                          go_simp
                          with_reducible rfl
                         rotate_left
                         ·simp only [Act.put, List.setIfInBounds_toArray, List.set_cons_zero, List.set_cons_succ, i64_w, i32_w]
                          rfl
                         refine take_ (i := 15) (N := some 71) (v := ?_) (a' := ?_) b16 rfl rfl (take_ofW HT_.out HW_.out (by kernel_rfl)) (fun _ _ _ h => h) (Or.inl ⟨by rfl, ?_⟩) hHeld ?_ ?_
                         rotate_left
                         ·rintro w' ⟨s0, s1, s2, s3, s4, s5, s6⟩
                          go_simp
                          with_reducible rfl
                         rotate_left
                         ·simp only [Act.put, List.setIfInBounds_toArray, List.set_cons_zero, List.set_cons_succ, i64_w, i32_w]
                          rfl
                         refine pu 16 (some 72) b17 HT_ rfl rfl ?_
                         refine pu 17 (some 73) b18 HT_ rfl rfl ?_
                         refine pu 18 (some 74) b19 HT_ rfl rfl ?_
                         refine pu 19 (some 75) b20 HT_ rfl rfl ?_
                         refine pu 20 (some 76) b21 HT_ rfl rfl ?_
                         refine pu 22 (some 78) b41 HT_ rfl rfl ?_
                         refine pu 23 (some 79) b42 HT_ rfl rfl ?_
                         refine take_ (i := 21) (N := some 77) (v := ?_) (a' := ?_) b24 rfl rfl (take_ofW HT_.out HW_.out (by kernel_rfl)) (fun _ _ _ h => h) (Or.inl ⟨by rfl, ?_⟩) hHeld ?_ ?_
                         rotate_left
                         ·rintro w' ⟨s0, s1, s2, s3, s4, s5, s6⟩
                          go_simp
                          with_reducible rfl
                         rotate_left
                         ·simp only [Act.put, List.setIfInBounds_toArray, List.set_cons_zero, List.set_cons_succ, i64_w, i32_w]
                          rfl
                         refine take_ (i := 24) (N := some 80) (v := ?_) (a' := ?_) b25 rfl rfl (take_ofW HT_.out HW_.out (by kernel_rfl)) (fun _ _ _ h => h) (Or.inl ⟨by rfl, ?_⟩) hHeld ?_ ?_
                         rotate_left
                         ·rintro w' ⟨s0, s1, s2, s3, s4, s5, s6⟩
                          go_simp
                          with_reducible rfl
                         rotate_left
                         ·simp only [Act.put, List.setIfInBounds_toArray, List.set_cons_zero, List.set_cons_succ, i64_w, i32_w]
                          rfl
                         refine pu 25 (some 81) b26 HT_ rfl rfl ?_
                         refine pu 26 (some 82) b27 HT_ rfl rfl ?_
                         refine pu 27 (some 83) b28 HT_ rfl rfl ?_
                         refine pu 28 (some 84) b29 HT_ rfl rfl ?_
                         refine pu 29 (some 85) b30 HT_ rfl rfl ?_
                         refine pu 31 (some 87) b43 HT_ rfl rfl ?_
                         refine pu 32 (some 88) b44 HT_ rfl rfl ?_
                         refine pu 34 (some 90) b45 HT_ rfl rfl ?_
                         refine pu 35 (some 91) b46 HT_ rfl rfl ?_
                         refine take_ (i := 30) (N := some 86) (v := ?_) (a' := ?_) b47 rfl rfl (take_ofW HT_.out HW_.out (by kernel_rfl)) (fun _ _ _ h => h) (Or.inl ⟨by rfl, ?_⟩) hHeld ?_ ?_
                         rotate_left
                         ·rintro w' ⟨s0, s1, s2, s3, s4, s5, s6⟩
                          go_simp
                          with_reducible rfl
                         rotate_left
                         ·simp only [Act.put, List.setIfInBounds_toArray, List.set_cons_zero, List.set_cons_succ, i64_w, i32_w]
                          rfl
                         refine take_ (i := 33) (N := some 89) (v := ?_) (a' := ?_) b36 rfl rfl (take_ofW HT_.out HW_.out (by kernel_rfl)) (fun _ _ _ h => h) (Or.inl ⟨by rfl, ?_⟩) hHeld ?_ ?_
                         rotate_left
                         ·rintro w' ⟨s0, s1, s2, s3, s4, s5, s6⟩
                          go_simp
                          with_reducible rfl
                         rotate_left
                         ·simp only [Act.put, List.setIfInBounds_toArray, List.set_cons_zero, List.set_cons_succ, i64_w, i32_w]
                          rfl
                         refine take_ (i := 36) (N := some 92) (v := ?_) (a' := ?_) b37 rfl rfl (take_ofW HT_.out HW_.out (by kernel_rfl)) (fun _ _ _ h => h) (Or.inl ⟨by rfl, ?_⟩) hHeld ?_ ?_
                         rotate_left
                         ·rintro w' ⟨s0, s1, s2, s3, s4, s5, s6⟩
                          go_simp
                          with_reducible rfl
                         rotate_left
                         ·simp only [Act.put, List.setIfInBounds_toArray, List.set_cons_zero, List.set_cons_succ, i64_w, i32_w]
                          rfl
                         refine one_ (i := 37) (N := some 93) b38 rfl rfl (one_of HT_.out (by kernel_rfl)) (by decide) (fun K hK => ?_)
                         refine goes_ Try.func12 (by kernel_rfl) rfl #[.int .i64 (rd (rd_L2 t155 x8_2) 0), .int .i64 (rd (rd_L2 t155 x8_2) 1), .int .i64 (rd (rd_L2 t155 x8_2) 2)] (by rfl) rfl rfl (by (try simp only [List.map_toArray, List.map_cons, List.map_nil]); first | done | rfl | (simp only [List.length_drop, List.length_take]; rfl)) ?_
                         with_reducible refine (impl_StickThree.calls k2 (rd (rd_L2 t155 x8_2) 0) (rd (rd_L2 t155 x8_2) 1) (rd (rd_L2 t155 x8_2) 2) true _ A36.out).mono ?_
                         rintro e w53 ⟨rfl, hb⟩
                         have HS0_ := (hb.cell (World.block_lt_of_cell? _ _ (hHeld.1))).trans (hHeld.1)
                         have HS1_ := (hb.cell (World.block_lt_of_cell? _ _ (hHeld.2.1))).trans (hHeld.2.1)
                         have HS2_ := (hb.cell (World.block_lt_of_cell? _ _ (hHeld.2.2.1))).trans (hHeld.2.2.1)
                         have HS3_ := (hb.cell (World.block_lt_of_cell? _ _ (hHeld.2.2.2.1))).trans (hHeld.2.2.2.1)
                         have HS4_ := (hb.cell (World.block_lt_of_cell? _ _ (hHeld.2.2.2.2.1))).trans (hHeld.2.2.2.2.1)
                         have HS5_ := (hb.cell (World.block_lt_of_cell? _ _ (hHeld.2.2.2.2.2.1))).trans (hHeld.2.2.2.2.2.1)
                         have HS6_ := (hb.cell (World.block_lt_of_cell? _ _ (hHeld.2.2.2.2.2.2))).trans (hHeld.2.2.2.2.2.2)
                         refine ⟨_, rfl, ?_⟩
                         have n0_ := Aside0.mk (Kd.S_below (by (with_reducible repeat (first | apply Kd.S_alloc | apply Kd.S_drewN | apply Kd.S_drew)); exact HO_4.out) hb)
                         have n1_ := Aside0.mk (Kd.R_below (by (with_reducible repeat (first | apply Kd.R_alloc | apply Kd.R_drewN | apply Kd.R_drew)); exact HL165_0.out) hb)
                         have n2_ := Aside0.mk (Kd.C_below (by (with_reducible repeat (first | apply Kd.C_alloc | apply Kd.C_drewN | apply Kd.C_drew)); exact HR165_0.out) hb)
                         have n3_ := Aside0.mk (below_step (by repeat (first | (with_reducible first | exact HB.out | apply below_alloc | apply pw_below_drewN | apply below_drew1) | exact HB.out)) hb)
                         clear HO_4
                         clear HL165_0
                         clear HR165_0
                         clear HB
                         have HO_4 := n0_
                         have HL165_0 := n1_
                         have HR165_0 := n2_
                         have HB := n3_
                         clear n0_ n1_ n2_ n3_
                         (try clear hb)
                         (try clear hb2)
                         (try clear hk)
                         (try clear hi)
                         refine hK.out _ _ ⟨HS0_, HS1_, HS2_, HS3_, HS4_, HS5_, HS6_⟩ (fun hHeld => ?_)
                         clear hK K
                         refine norm_ (a' := ?_) ?_ ?_
                         rotate_left
                         ·show Act.put _ (some 93) _ = _
                          simp only [Act.put, List.setIfInBounds_toArray, List.set_cons_zero, List.set_cons_succ, i64_w, i32_w]
                          rfl
                         refine pu 38 (some 94) b39 HT_ rfl rfl ?_
                         refine pu 39 (some 95) b40 HT_ rfl rfl ?_
                         refine done_ (done_of HT_.out (by kernel_rfl)) ?_
                         try go_wp2
                         have n0_ := Aside0.mk (Kd.S_drew HO_4.out)
                         have n1_ := Aside0.mk (Kd.R_drew HL165_0.out)
                         have n2_ := Aside0.mk (Kd.C_drew HR165_0.out)
                         have n3_ := Aside0.mk (below_drew1 HB.out)
                         clear HO_4
                         clear HL165_0
                         clear HR165_0
                         clear HB
                         have HO_4 := n0_
                         have HL165_0 := n1_
                         have HR165_0 := n2_
                         have HB := n3_
                         clear n0_ n1_ n2_ n3_
                         have p175 : 0 ≤ (0 : Int) := (by omega)
                         have q175 : 0 < ((rd_L2 t155 x8_2).length : Int) := of_decide_eq_true (by first | (with_reducible assumption) | assumption)
                         obtain ⟨ad175, e175, hx175_0⟩ := Kd.at_int (by repeat (first | (with_reducible exact HR165_0.out) | (with_reducible refine Kd.C_alloc ?_ _) | (with_reducible refine Kd.C_drewN ?_ _) | (with_reducible refine Kd.C_drew ?_) | exact HR165_0.out)) 0 p175 q175
                         obtain rfl : ad167 = ad175 := (by injection e175)
                         have qi175 : (0 < (rd_L2 t155 x8_2).length) = True := eq_true (by omega)
                         (try rw [show ((0 : Int)).toNat = 0 from rfl] at hx175_0)
                         (try rw [Addr.add_zero'] at hx175_0)
                         replace p175 := eq_true p175
                         replace q175 := eq_true q175
                         have p176 : 0 ≤ ((ji39) : Int) := of_decide_eq_true (by first | (with_reducible assumption) | assumption)
                         have q176 : (ji39) < (t155.length : Int) := of_decide_eq_true (by first | (with_reducible assumption) | assumption)
                         obtain ⟨ad176, A176_0, c176_0, e176, hx176_0, hl176_0, hi176_0⟩ := at_L2 (Kd.S_reads' HO_4.out).2.2 (ji39) p176 q176
                         obtain rfl : ad165 = ad176 := (by injection e176)
                         obtain ⟨ce176, hce176, hMe176, hcc176⟩ := Kd.S_get HO_4.out [] (ji39) p176 (by first | exact q176 | exact of_decide_eq_true (by first | (with_reducible assumption) | assumption) | (have e_ := (Kd.S_reads' HO_4.out).1; omega))
                         obtain ⟨ve176_0, rfl, ge176_0⟩ := hMe176
                         have hv176_0 := hcc176 0 _ rfl
                         rw [Nat.add_zero, show ((Kd.slice 3 (Kd.int .i64))).sz = 1 from rfl, Nat.mul_one] at hv176_0
                         replace hv176_0 := Option.some.inj (hv176_0.symm.trans hx176_0)
                         rw [hv176_0] at ge176_0
                         have HL176_0 := Aside0.mk (show Kd.R (Kd.int .i64) 3 _ _ _ _ (rd_L2 t155 (ji39)) from ge176_0)
                         clear hv176_0 ge176_0
                         clear hcc176 hce176
                         have HR176_0 := Aside0.mk hi176_0
                         have HC176_0 := Aside0.mk hl176_0
                         clear hi176_0 hl176_0
                         replace p176 := eq_true p176
                         replace q176 := eq_true q176
                         have p177 : 0 ≤ (0 : Int) := (by omega)
                         have q177 : 0 < ((rd_L2 t155 (ji39)).length : Int) := of_decide_eq_true (by first | (with_reducible assumption) | assumption)
                         obtain ⟨ad177, e177, hx177_0⟩ := Kd.at_int (by repeat (first | (with_reducible exact HR176_0.out) | (with_reducible refine Kd.C_alloc ?_ _) | (with_reducible refine Kd.C_drewN ?_ _) | (with_reducible refine Kd.C_drew ?_) | exact HR176_0.out)) 0 p177 q177
                         cases e177
                         have qi177 : (0 < (rd_L2 t155 (ji39)).length) = True := eq_true (by omega)
                         (try rw [show ((0 : Int)).toNat = 0 from rfl] at hx177_0)
                         (try rw [Addr.add_zero'] at hx177_0)
                         replace p177 := eq_true p177
                         replace q177 := eq_true q177
                         have p178 : 0 ≤ (0 : Int) := (by omega)
                         have q178 : 0 < ((rd_L2 t155 x8_2).length : Int) := of_decide_eq_true (by first | (with_reducible assumption) | assumption)
                         obtain ⟨ad178, e178, hx178_0⟩ := Kd.at_int (by repeat (first | (with_reducible exact HR165_0.out) | (with_reducible refine Kd.C_alloc ?_ _) | (with_reducible refine Kd.C_drewN ?_ _) | (with_reducible refine Kd.C_drew ?_) | exact HR165_0.out)) 0 p178 q178
                         obtain rfl : ad167 = ad178 := (by injection e178)
                         have qi178 : (0 < (rd_L2 t155 x8_2).length) = True := eq_true (by omega)
                         (try rw [show ((0 : Int)).toNat = 0 from rfl] at hx178_0)
                         (try rw [Addr.add_zero'] at hx178_0)
                         replace p178 := eq_true p178
                         replace q178 := eq_true q178
                         have p179 : 0 ≤ ((ji39) : Int) := of_decide_eq_true (by first | (with_reducible assumption) | assumption)
                         have q179 : (ji39) < (t155.length : Int) := of_decide_eq_true (by first | (with_reducible assumption) | assumption)
                         obtain ⟨ad179, A179_0, c179_0, e179, hx179_0, hl179_0, hi179_0⟩ := at_L2 (Kd.S_reads' HO_4.out).2.2 (ji39) p179 q179
                         obtain rfl : ad165 = ad179 := (by injection e179)
                         obtain ⟨ce179, hce179, hMe179, hcc179⟩ := Kd.S_get HO_4.out [] (ji39) p179 (by first | exact q179 | exact of_decide_eq_true (by first | (with_reducible assumption) | assumption) | (have e_ := (Kd.S_reads' HO_4.out).1; omega))
                         obtain ⟨ve179_0, rfl, ge179_0⟩ := hMe179
                         have hv179_0 := hcc179 0 _ rfl
                         rw [Nat.add_zero, show ((Kd.slice 3 (Kd.int .i64))).sz = 1 from rfl, Nat.mul_one] at hv179_0
                         replace hv179_0 := Option.some.inj (hv179_0.symm.trans hx179_0)
                         rw [hv179_0] at ge179_0
                         have HL179_0 := Aside0.mk (show Kd.R (Kd.int .i64) 3 _ _ _ _ (rd_L2 t155 (ji39)) from ge179_0)
                         clear hv179_0 ge179_0
                         clear hcc179 hce179
                         have HR179_0 := Aside0.mk hi179_0
                         have HC179_0 := Aside0.mk hl179_0
                         clear hi179_0 hl179_0
                         replace p179 := eq_true p179
                         replace q179 := eq_true q179
                         have ea_ := Option.some.inj (hx176_0.symm.trans hx179_0)
                         injection ea_ with ea_ en_ ec_
                         subst ea_
                         subst ec_
                         clear en_
                         have p180 : 0 ≤ (0 : Int) := (by omega)
                         have q180 : 0 < ((rd_L2 t155 (ji39)).length : Int) := of_decide_eq_true (by first | (with_reducible assumption) | assumption)
                         obtain ⟨ad180, e180, hx180_0⟩ := Kd.at_int (by repeat (first | (with_reducible exact HR179_0.out) | (with_reducible refine Kd.C_alloc ?_ _) | (with_reducible refine Kd.C_drewN ?_ _) | (with_reducible refine Kd.C_drew ?_) | exact HR179_0.out)) 0 p180 q180
                         cases e180
                         have qi180 : (0 < (rd_L2 t155 (ji39)).length) = True := eq_true (by omega)
                         (try rw [show ((0 : Int)).toNat = 0 from rfl] at hx180_0)
                         (try rw [Addr.add_zero'] at hx180_0)
                         replace p180 := eq_true p180
                         replace q180 := eq_true q180
                         have p181 : 0 ≤ (1 : Int) := (by omega)
                         have q181 : 1 < ((rd_L2 t155 x8_2).length : Int) := of_decide_eq_true (by first | (with_reducible assumption) | assumption)
                         obtain ⟨ad181, e181, hx181_0⟩ := Kd.at_int (by repeat (first | (with_reducible exact HR165_0.out) | (with_reducible refine Kd.C_alloc ?_ _) | (with_reducible refine Kd.C_drewN ?_ _) | (with_reducible refine Kd.C_drew ?_) | exact HR165_0.out)) 1 p181 q181
                         obtain rfl : ad167 = ad181 := (by injection e181)
                         (try simp only [show (1 : Int).toNat = 1 from rfl, Nat.reduceMul, Nat.reduceEqDiff, Go.Addr.add, ↓reduceIte] at hx181_0)
                         have qi181 : (1 < (rd_L2 t155 x8_2).length) = True := eq_true (by omega)
                         (try rw [show ((1 : Int)).toNat = 1 from rfl] at hx181_0)
                         replace p181 := eq_true p181
                         replace q181 := eq_true q181
                         have p182 : 0 ≤ ((ji39) : Int) := of_decide_eq_true (by first | (with_reducible assumption) | assumption)
                         have q182 : (ji39) < (t155.length : Int) := of_decide_eq_true (by first | (with_reducible assumption) | assumption)
                         obtain ⟨ad182, A182_0, c182_0, e182, hx182_0, hl182_0, hi182_0⟩ := at_L2 (Kd.S_reads' HO_4.out).2.2 (ji39) p182 q182
                         obtain rfl : ad165 = ad182 := (by injection e182)
                         obtain ⟨ce182, hce182, hMe182, hcc182⟩ := Kd.S_get HO_4.out [] (ji39) p182 (by first | exact q182 | exact of_decide_eq_true (by first | (with_reducible assumption) | assumption) | (have e_ := (Kd.S_reads' HO_4.out).1; omega))
                         obtain ⟨ve182_0, rfl, ge182_0⟩ := hMe182
                         have hv182_0 := hcc182 0 _ rfl
                         rw [Nat.add_zero, show ((Kd.slice 3 (Kd.int .i64))).sz = 1 from rfl, Nat.mul_one] at hv182_0
                         replace hv182_0 := Option.some.inj (hv182_0.symm.trans hx182_0)
                         rw [hv182_0] at ge182_0
                         have HL182_0 := Aside0.mk (show Kd.R (Kd.int .i64) 3 _ _ _ _ (rd_L2 t155 (ji39)) from ge182_0)
                         clear hv182_0 ge182_0
                         clear hcc182 hce182
                         have HR182_0 := Aside0.mk hi182_0
                         have HC182_0 := Aside0.mk hl182_0
                         clear hi182_0 hl182_0
                         replace p182 := eq_true p182
                         replace q182 := eq_true q182
                         have ea_ := Option.some.inj (hx176_0.symm.trans hx182_0)
                         injection ea_ with ea_ en_ ec_
                         subst ea_
                         subst ec_
                         clear en_
                         have p183 : 0 ≤ (1 : Int) := (by omega)
                         have q183 : 1 < ((rd_L2 t155 (ji39)).length : Int) := of_decide_eq_true (by first | (with_reducible assumption) | assumption)
                         obtain ⟨ad183, e183, hx183_0⟩ := Kd.at_int (by repeat (first | (with_reducible exact HR182_0.out) | (with_reducible refine Kd.C_alloc ?_ _) | (with_reducible refine Kd.C_drewN ?_ _) | (with_reducible refine Kd.C_drew ?_) | exact HR182_0.out)) 1 p183 q183
                         cases e183
                         (try simp only [show (1 : Int).toNat = 1 from rfl, Nat.reduceMul, Nat.reduceEqDiff, Go.Addr.add, ↓reduceIte] at hx183_0)
                         have qi183 : (1 < (rd_L2 t155 (ji39)).length) = True := eq_true (by omega)
                         (try rw [show ((1 : Int)).toNat = 1 from rfl] at hx183_0)
                         replace p183 := eq_true p183
                         replace q183 := eq_true q183
                         refine start_ (n := 41) (S := fun w' => w'.cell? ad167 = some (.int .i64 (rd (rd_L2 t155 x8_2) 0)) ∧ w'.cell? (ad165.add ((ji39)).toNat) = some (.slice (some ad177) (rd_L2 t155 (ji39)).length c176_0) ∧ w'.cell? ad177 = some (.int .i64 (rd (rd_L2 t155 (ji39)) 0)) ∧ w'.cell? ad167 = some (.int .i64 (rd (rd_L2 t155 x8_2) 0)) ∧ w'.cell? (ad165.add ((ji39)).toNat) = some (.slice (some ad177) (rd_L2 t155 (ji39)).length c176_0) ∧ w'.cell? ad177 = some (.int .i64 (rd (rd_L2 t155 (ji39)) 0)) ∧ w'.cell? ⟨ad167.block, ad167.off + 1, none⟩ = some (.int .i64 (rd (rd_L2 t155 x8_2) 1)) ∧ w'.cell? (ad165.add ((ji39)).toNat) = some (.slice (some ad177) (rd_L2 t155 (ji39)).length c176_0) ∧ w'.cell? ⟨ad177.block, ad177.off + 1, none⟩ = some (.int .i64 (rd (rd_L2 t155 (ji39)) 1))) (ds := []) b48 (by kernel_rfl) rfl rfl ⟨hx175_0, hx176_0, hx177_0, hx178_0, hx179_0, hx180_0, hx181_0, hx182_0, hx183_0⟩ (fun hHeld => ?_); refine with_tabW laws_FnTriAll.tab14 laws_FnTriAll.bits14 (fun HT_ HW_ => ?_)
                         generalize w53.drew = w54 at HO_4 HL165_0 HR165_0 HB HL176_0 HL179_0 HL182_0 HR176_0 HR179_0 HR182_0 hx175_0 hx176_0 hx177_0 hx178_0 hx179_0 hx180_0 hx181_0 hx182_0 hx183_0 hHeld ⊢
                         refine pu 0 (some 96) b49 HT_ rfl rfl ?_
                         refine pu 1 (some 97) b50 HT_ rfl rfl ?_
                         refine pu 2 (some 98) b51 HT_ rfl rfl ?_
                         refine pu 3 (some 99) b52 HT_ rfl rfl ?_
                         refine pu 4 (some 100) b53 HT_ rfl rfl ?_
                         refine pu 6 (some 102) b54 HT_ rfl rfl ?_
                         refine pu 7 (some 103) b55 HT_ rfl rfl ?_
                         refine pu 8 (some 104) b56 HT_ rfl rfl ?_
                         refine pu 9 (some 105) b57 HT_ rfl rfl ?_
                         refine take_ (i := 5) (N := some 101) (v := ?_) (a' := ?_) b58 rfl rfl (take_ofW HT_.out HW_.out (by kernel_rfl)) (fun _ _ _ h => h) (Or.inl ⟨by rfl, ?_⟩) hHeld ?_ ?_
                         rotate_left
                         ·rintro w' ⟨s0, s1, s2, s3, s4, s5, s6, s7, s8⟩
                          go_simp
                          with_reducible rfl
                         rotate_left
                         ·simp only [Act.put, List.setIfInBounds_toArray, List.set_cons_zero, List.set_cons_succ, i64_w, i32_w]
                          rfl
                         refine take_ (i := 10) (N := some 106) (v := ?_) (a' := ?_) b59 rfl rfl (take_ofW HT_.out HW_.out (by kernel_rfl)) (fun _ _ _ h => h) (Or.inl ⟨by rfl, ?_⟩) hHeld ?_ ?_
                         rotate_left
                         ·rintro w' ⟨s0, s1, s2, s3, s4, s5, s6, s7, s8⟩
                          go_simp
                          with_reducible rfl
                         rotate_left
                         ·simp only [Act.put, List.setIfInBounds_toArray, List.set_cons_zero, List.set_cons_succ, i64_w, i32_w]
                          rfl
                         refine pu 11 (some 107) b60 HT_ rfl rfl ?_
                         refine take_ (i := 12) (N := some 108) (v := ?_) (a' := ?_) b61 rfl rfl (take_ofW HT_.out HW_.out (by kernel_rfl)) (fun _ _ _ h => h) (Or.inl ⟨by rfl, ?_⟩) hHeld ?_ ?_
                         rotate_left
                         ·rintro w' ⟨s0, s1, s2, s3, s4, s5, s6, s7, s8⟩
                          go_simp
                          with_reducible rfl
                         rotate_left
                         ·simp only [Act.put, List.setIfInBounds_toArray, List.set_cons_zero, List.set_cons_succ, i64_w, i32_w]
                          rfl
                         refine pu 13 (some 109) b62 HT_ rfl rfl ?_
                         refine pu 14 (some 110) b63 HT_ rfl rfl ?_
                         refine pu 15 (some 111) b64 HT_ rfl rfl ?_
                         refine pu 16 (some 112) b65 HT_ rfl rfl ?_
                         refine pu 18 (some 114) b90 HT_ rfl rfl ?_
                         refine pu 19 (some 115) b91 HT_ rfl rfl ?_
                         refine pu 20 (some 116) b92 HT_ rfl rfl ?_
                         refine pu 21 (some 117) b93 HT_ rfl rfl ?_
                         refine take_ (i := 17) (N := some 113) (v := ?_) (a' := ?_) b70 rfl rfl (take_ofW HT_.out HW_.out (by kernel_rfl)) (fun _ _ _ h => h) (Or.inl ⟨by rfl, ?_⟩) hHeld ?_ ?_
                         rotate_left
                         ·rintro w' ⟨s0, s1, s2, s3, s4, s5, s6, s7, s8⟩
                          go_simp
                          with_reducible rfl
                         rotate_left
                         ·simp only [Act.put, List.setIfInBounds_toArray, List.set_cons_zero, List.set_cons_succ, i64_w, i32_w]
                          rfl
                         refine take_ (i := 22) (N := some 118) (v := ?_) (a' := ?_) b71 rfl rfl (take_ofW HT_.out HW_.out (by kernel_rfl)) (fun _ _ _ h => h) (Or.inl ⟨by rfl, ?_⟩) hHeld ?_ ?_
                         rotate_left
                         ·rintro w' ⟨s0, s1, s2, s3, s4, s5, s6, s7, s8⟩
                          go_simp
                          with_reducible rfl
                         rotate_left
                         ·simp only [Act.put, List.setIfInBounds_toArray, List.set_cons_zero, List.set_cons_succ, i64_w, i32_w]
                          rfl
                         refine pu 23 (some 119) b72 HT_ rfl rfl ?_
                         refine take_ (i := 24) (N := some 120) (v := ?_) (a' := ?_) b73 rfl rfl (take_ofW HT_.out HW_.out (by kernel_rfl)) (fun _ _ _ h => h) (Or.inl ⟨by rfl, ?_⟩) hHeld ?_ ?_
                         rotate_left
                         ·rintro w' ⟨s0, s1, s2, s3, s4, s5, s6, s7, s8⟩
                          go_simp
                          with_reducible rfl
                         rotate_left
                         ·simp only [Act.put, List.setIfInBounds_toArray, List.set_cons_zero, List.set_cons_succ, i64_w, i32_w]
                          rfl
                         refine pu 25 (some 121) b74 HT_ rfl rfl ?_
                         refine pu 26 (some 122) b75 HT_ rfl rfl ?_
                         refine pu 27 (some 123) b76 HT_ rfl rfl ?_
                         refine pu 28 (some 124) b77 HT_ rfl rfl ?_
                         refine pu 30 (some 126) b94 HT_ rfl rfl ?_
                         refine pu 31 (some 127) b95 HT_ rfl rfl ?_
                         refine pu 32 (some 128) b96 HT_ rfl rfl ?_
                         refine pu 33 (some 129) b97 HT_ rfl rfl ?_
                         refine take_ (i := 29) (N := some 125) (v := ?_) (a' := ?_) b82 rfl rfl (take_ofW HT_.out HW_.out (by kernel_rfl)) (fun _ _ _ h => h) (Or.inl ⟨by rfl, ?_⟩) hHeld ?_ ?_
                         rotate_left
                         ·rintro w' ⟨s0, s1, s2, s3, s4, s5, s6, s7, s8⟩
                          go_simp
                          with_reducible rfl
                         rotate_left
                         ·simp only [Act.put, List.setIfInBounds_toArray, List.set_cons_zero, List.set_cons_succ, i64_w, i32_w]
                          rfl
                         refine take_ (i := 34) (N := some 130) (v := ?_) (a' := ?_) b83 rfl rfl (take_ofW HT_.out HW_.out (by kernel_rfl)) (fun _ _ _ h => h) (Or.inl ⟨by rfl, ?_⟩) hHeld ?_ ?_
                         rotate_left
                         ·rintro w' ⟨s0, s1, s2, s3, s4, s5, s6, s7, s8⟩
                          go_simp
                          with_reducible rfl
                         rotate_left
                         ·simp only [Act.put, List.setIfInBounds_toArray, List.set_cons_zero, List.set_cons_succ, i64_w, i32_w]
                          rfl
                         refine pu 35 (some 131) b84 HT_ rfl rfl ?_
                         refine take_ (i := 36) (N := some 132) (v := ?_) (a' := ?_) b85 rfl rfl (take_ofW HT_.out HW_.out (by kernel_rfl)) (fun _ _ _ h => h) (Or.inl ⟨by rfl, ?_⟩) hHeld ?_ ?_
                         rotate_left
                         ·rintro w' ⟨s0, s1, s2, s3, s4, s5, s6, s7, s8⟩
                          go_simp
                          with_reducible rfl
                         rotate_left
                         ·simp only [Act.put, List.setIfInBounds_toArray, List.set_cons_zero, List.set_cons_succ, i64_w, i32_w]
                          rfl
                         refine pu 37 (some 133) b86 HT_ rfl rfl ?_
                         refine pu 38 (some 134) b87 HT_ rfl rfl ?_
                         refine pu 39 (some 135) b88 HT_ rfl rfl ?_
                         refine pu 40 (some 136) b89 HT_ rfl rfl ?_
                         refine done_ (done_of HT_.out (by kernel_rfl)) ?_
                         try go_wp2
                         go_ret
                         exact ⟨by first | rfl | (simp [errW_none, errW_some] <;> rfl) | (simp only [← hji39]; first | rfl | (simp [errW_none, errW_some] <;> rfl)) | (simp [*, errW_none, errW_some] <;> rfl), by repeat (first | (with_reducible first | exact HB.out | apply below_alloc | apply pw_below_drewN | apply below_drew1) | exact HB.out)⟩
                        ·rw [if_neg c50] at H
                         have c50b0 : decide ((rd (rd_L2 t155 x8_2) 1) ≤ (rd (rd_L2 t155 (ji39)) 1)) = false := decide_eq_false c50
                         clear c50
                         have H' := Aside0.mk H
                         clear H
                         obtain ⟨Ao55, co55, eo55⟩ := Kd.S_slice HO_4.out
                         subst eo55
                         have p165 : 0 ≤ (x8_2 : Int) := of_decide_eq_true (by first | (with_reducible assumption) | assumption)
                         have q165 : x8_2 < (t155.length : Int) := of_decide_eq_true (by first | (with_reducible assumption) | assumption)
                         obtain ⟨ad165, A165_0, c165_0, e165, hx165_0, hl165_0, hi165_0⟩ := at_L2 (Kd.S_reads' HO_4.out).2.2 x8_2 p165 q165
                         cases e165
                         obtain ⟨ce165, hce165, hMe165, hcc165⟩ := Kd.S_get HO_4.out [] x8_2 p165 (by first | exact q165 | exact of_decide_eq_true (by first | (with_reducible assumption) | assumption) | (have e_ := (Kd.S_reads' HO_4.out).1; omega))
                         obtain ⟨ve165_0, rfl, ge165_0⟩ := hMe165
                         have hv165_0 := hcc165 0 _ rfl
                         rw [Nat.add_zero, show ((Kd.slice 3 (Kd.int .i64))).sz = 1 from rfl, Nat.mul_one] at hv165_0
                         replace hv165_0 := Option.some.inj (hv165_0.symm.trans hx165_0)
                         rw [hv165_0] at ge165_0
                         have HL165_0 := Aside0.mk (show Kd.R (Kd.int .i64) 3 _ _ _ _ (rd_L2 t155 x8_2) from ge165_0)
                         clear hv165_0 ge165_0
                         clear hcc165 hce165
                         have HR165_0 := Aside0.mk hi165_0
                         have HC165_0 := Aside0.mk hl165_0
                         clear hi165_0 hl165_0
                         replace p165 := eq_true p165
                         replace q165 := eq_true q165
                         try go_wp2
                         have n0_ := Aside0.mk (Kd.S_drew HO_4.out)
                         have n1_ := Aside0.mk (Kd.R_drew HL165_0.out)
                         have n2_ := Aside0.mk (Kd.C_drew HR165_0.out)
                         have n3_ := Aside0.mk (below_drew1 HB.out)
                         clear HO_4
                         clear HL165_0
                         clear HR165_0
                         clear HB
                         have HO_4 := n0_
                         have HL165_0 := n1_
                         have HR165_0 := n2_
                         have HB := n3_
                         clear n0_ n1_ n2_ n3_
                         have p167 : 0 ≤ (0 : Int) := (by omega)
                         have q167 : 0 < ((rd_L2 t155 x8_2).length : Int) := of_decide_eq_true (by first | (with_reducible assumption) | assumption)
                         obtain ⟨ad167, e167, hx167_0⟩ := Kd.at_int (by repeat (first | (with_reducible exact HR165_0.out) | (with_reducible refine Kd.C_alloc ?_ _) | (with_reducible refine Kd.C_drewN ?_ _) | (with_reducible refine Kd.C_drew ?_) | exact HR165_0.out)) 0 p167 q167
                         cases e167
                         have qi167 : (0 < (rd_L2 t155 x8_2).length) = True := eq_true (by omega)
                         (try rw [show ((0 : Int)).toNat = 0 from rfl] at hx167_0)
                         (try rw [Addr.add_zero'] at hx167_0)
                         replace p167 := eq_true p167
                         replace q167 := eq_true q167
                         have p168 : 0 ≤ (1 : Int) := (by omega)
                         have q168 : 1 < ((rd_L2 t155 x8_2).length : Int) := of_decide_eq_true (by first | (with_reducible assumption) | assumption)
                         obtain ⟨ad168, e168, hx168_0⟩ := Kd.at_int (by repeat (first | (with_reducible exact HR165_0.out) | (with_reducible refine Kd.C_alloc ?_ _) | (with_reducible refine Kd.C_drewN ?_ _) | (with_reducible refine Kd.C_drew ?_) | exact HR165_0.out)) 1 p168 q168
                         obtain rfl : ad167 = ad168 := (by injection e168)
                         (try simp only [show (1 : Int).toNat = 1 from rfl, Nat.reduceMul, Nat.reduceEqDiff, Go.Addr.add, ↓reduceIte] at hx168_0)
                         have qi168 : (1 < (rd_L2 t155 x8_2).length) = True := eq_true (by omega)
                         (try rw [show ((1 : Int)).toNat = 1 from rfl] at hx168_0)
                         replace p168 := eq_true p168
                         replace q168 := eq_true q168
                         have p169 : 0 ≤ (1 : Int) := (by omega)
                         have q169 : 1 < ((rd_L2 t155 x8_2).length : Int) := of_decide_eq_true (by first | (with_reducible assumption) | assumption)
                         obtain ⟨ad169, e169, hx169_0⟩ := Kd.at_int (by repeat (first | (with_reducible exact HR165_0.out) | (with_reducible refine Kd.C_alloc ?_ _) | (with_reducible refine Kd.C_drewN ?_ _) | (with_reducible refine Kd.C_drew ?_) | exact HR165_0.out)) 1 p169 q169
                         obtain rfl : ad167 = ad169 := (by injection e169)
                         (try simp only [show (1 : Int).toNat = 1 from rfl, Nat.reduceMul, Nat.reduceEqDiff, Go.Addr.add, ↓reduceIte] at hx169_0)
                         have qi169 : (1 < (rd_L2 t155 x8_2).length) = True := eq_true (by omega)
                         (try rw [show ((1 : Int)).toNat = 1 from rfl] at hx169_0)
                         replace p169 := eq_true p169
                         replace q169 := eq_true q169
                         have p170 : 0 ≤ (2 : Int) := (by omega)
                         have q170 : 2 < ((rd_L2 t155 x8_2).length : Int) := of_decide_eq_true (by first | (with_reducible assumption) | assumption)
                         obtain ⟨ad170, e170, hx170_0⟩ := Kd.at_int (by repeat (first | (with_reducible exact HR165_0.out) | (with_reducible refine Kd.C_alloc ?_ _) | (with_reducible refine Kd.C_drewN ?_ _) | (with_reducible refine Kd.C_drew ?_) | exact HR165_0.out)) 2 p170 q170
                         obtain rfl : ad167 = ad170 := (by injection e170)
                         (try simp only [show (2 : Int).toNat = 2 from rfl, Nat.reduceMul, Nat.reduceEqDiff, Go.Addr.add, ↓reduceIte] at hx170_0)
                         have qi170 : (2 < (rd_L2 t155 x8_2).length) = True := eq_true (by omega)
                         (try rw [show ((2 : Int)).toNat = 2 from rfl] at hx170_0)
                         replace p170 := eq_true p170
                         replace q170 := eq_true q170
                         have p171 : 0 ≤ (0 : Int) := (by omega)
                         have q171 : 0 < ((rd_L2 t155 x8_2).length : Int) := of_decide_eq_true (by first | (with_reducible assumption) | assumption)
                         obtain ⟨ad171, e171, hx171_0⟩ := Kd.at_int (by repeat (first | (with_reducible exact HR165_0.out) | (with_reducible refine Kd.C_alloc ?_ _) | (with_reducible refine Kd.C_drewN ?_ _) | (with_reducible refine Kd.C_drew ?_) | exact HR165_0.out)) 0 p171 q171
                         obtain rfl : ad167 = ad171 := (by injection e171)
                         have qi171 : (0 < (rd_L2 t155 x8_2).length) = True := eq_true (by omega)
                         (try rw [show ((0 : Int)).toNat = 0 from rfl] at hx171_0)
                         (try rw [Addr.add_zero'] at hx171_0)
                         replace p171 := eq_true p171
                         replace q171 := eq_true q171
                         have p172 : 0 ≤ (1 : Int) := (by omega)
                         have q172 : 1 < ((rd_L2 t155 x8_2).length : Int) := of_decide_eq_true (by first | (with_reducible assumption) | assumption)
                         obtain ⟨ad172, e172, hx172_0⟩ := Kd.at_int (by repeat (first | (with_reducible exact HR165_0.out) | (with_reducible refine Kd.C_alloc ?_ _) | (with_reducible refine Kd.C_drewN ?_ _) | (with_reducible refine Kd.C_drew ?_) | exact HR165_0.out)) 1 p172 q172
                         obtain rfl : ad167 = ad172 := (by injection e172)
                         (try simp only [show (1 : Int).toNat = 1 from rfl, Nat.reduceMul, Nat.reduceEqDiff, Go.Addr.add, ↓reduceIte] at hx172_0)
                         have qi172 : (1 < (rd_L2 t155 x8_2).length) = True := eq_true (by omega)
                         (try rw [show ((1 : Int)).toNat = 1 from rfl] at hx172_0)
                         replace p172 := eq_true p172
                         replace q172 := eq_true q172
                         have p173 : 0 ≤ (2 : Int) := (by omega)
                         have q173 : 2 < ((rd_L2 t155 x8_2).length : Int) := of_decide_eq_true (by first | (with_reducible assumption) | assumption)
                         obtain ⟨ad173, e173, hx173_0⟩ := Kd.at_int (by repeat (first | (with_reducible exact HR165_0.out) | (with_reducible refine Kd.C_alloc ?_ _) | (with_reducible refine Kd.C_drewN ?_ _) | (with_reducible refine Kd.C_drew ?_) | exact HR165_0.out)) 2 p173 q173
                         obtain rfl : ad167 = ad173 := (by injection e173)
                         (try simp only [show (2 : Int).toNat = 2 from rfl, Nat.reduceMul, Nat.reduceEqDiff, Go.Addr.add, ↓reduceIte] at hx173_0)
                         have qi173 : (2 < (rd_L2 t155 x8_2).length) = True := eq_true (by omega)
                         (try rw [show ((2 : Int)).toNat = 2 from rfl] at hx173_0)
                         replace p173 := eq_true p173
                         replace q173 := eq_true q173
                         refine start_ (n := 40) (S := fun w' => w'.cell? ad167 = some (.int .i64 (rd (rd_L2 t155 x8_2) 0)) ∧ w'.cell? ⟨ad167.block, ad167.off + 1, none⟩ = some (.int .i64 (rd (rd_L2 t155 x8_2) 1)) ∧ w'.cell? ⟨ad167.block, ad167.off + 1, none⟩ = some (.int .i64 (rd (rd_L2 t155 x8_2) 1)) ∧ w'.cell? ⟨ad167.block, ad167.off + 2, none⟩ = some (.int .i64 (rd (rd_L2 t155 x8_2) 2)) ∧ w'.cell? ad167 = some (.int .i64 (rd (rd_L2 t155 x8_2) 0)) ∧ w'.cell? ⟨ad167.block, ad167.off + 1, none⟩ = some (.int .i64 (rd (rd_L2 t155 x8_2) 1)) ∧ w'.cell? ⟨ad167.block, ad167.off + 2, none⟩ = some (.int .i64 (rd (rd_L2 t155 x8_2) 2))) (ds := []) b0 (by kernel_rfl) rfl rfl ⟨hx167_0, hx168_0, hx169_0, hx170_0, hx171_0, hx172_0, hx173_0⟩ (fun hHeld => ?_); refine with_tabW laws_FnTriAll.tab12 laws_FnTriAll.bits12 (fun HT_ HW_ => ?_)
                         generalize wr.drew = w56 at HO_4 HL165_0 HR165_0 HB hHeld ⊢
                         refine pu 0 (some 56) b1 HT_ rfl rfl ?_
                         refine pu 1 (some 57) b2 HT_ rfl rfl ?_
                         refine pu 2 (some 58) b3 HT_ rfl rfl ?_
                         refine pu 3 (some 59) b4 HT_ rfl rfl ?_
                         refine pu 4 (some 60) b5 HT_ rfl rfl ?_
                         refine pu 6 (some 62) b6 HT_ rfl rfl ?_
                         refine one_ (i := 5) (N := some 61) b7 rfl rfl (one_of HT_.out (by kernel_rfl)) (by decide) (fun K hK => ?_)
                         refine goes_ Try.func11 (by kernel_rfl) rfl #[.slice _ (rd_L2 t155 x8_2).length c165_0] (by rfl) rfl rfl (by (try simp only [List.map_toArray, List.map_cons, List.map_nil]); first | done | rfl | (simp only [List.length_drop, List.length_take]; rfl)) ?_
                         with_reducible refine (laws_total.calls k2 _ _ (rd_L2 t155 x8_2) t166 _ ?side1 ?side2 A25.out).mono ?_
                         (case side1 => repeat (first | exact (by repeat (first | (with_reducible exact HR165_0.out) | (with_reducible refine Kd.C_alloc ?_ _) | (with_reducible refine Kd.C_drewN ?_ _) | (with_reducible refine Kd.C_drew ?_) | exact HR165_0.out)) | (with_reducible refine Kd.C_alloc ?_ _) | (with_reducible refine Kd.C_drewN ?_ _) | (with_reducible refine Kd.C_drew ?_)))
                         (case side2 => exact HC165_0.out)
                         rintro e w' ⟨rfl, ⟨nd, rfl⟩⟩
                         refine ⟨_, rfl, ?_⟩
                         refine hK.out _ _ ⟨hHeld.1, hHeld.2.1, hHeld.2.2.1, hHeld.2.2.2.1, hHeld.2.2.2.2.1, hHeld.2.2.2.2.2.1, hHeld.2.2.2.2.2.2⟩ (fun hHeld => ?_)
                         clear hK K
                         refine norm_ (a' := ?_) ?_ ?_
                         rotate_left
                         ·show Act.put _ (some 61) _ = _
                          simp only [Act.put, List.setIfInBounds_toArray, List.set_cons_zero, List.set_cons_succ, i64_w, i32_w]
                          rfl
                         refine pu 7 (some 63) b8 HT_ rfl rfl ?_
                         refine pu 8 (some 64) b9 HT_ rfl rfl ?_
                         refine pu 9 (some 65) b10 HT_ rfl rfl ?_
                         refine pu 10 (some 66) b11 HT_ rfl rfl ?_
                         refine pu 11 (some 67) b12 HT_ rfl rfl ?_
                         refine pu 13 (some 69) b13 HT_ rfl rfl ?_
                         refine pu 14 (some 70) b14 HT_ rfl rfl ?_
                         refine take_ (i := 12) (N := some 68) (v := ?_) (a' := ?_) b15 rfl rfl (take_ofW HT_.out HW_.out (by kernel_rfl)) (fun _ _ _ h => h) (Or.inl ⟨by rfl, ?_⟩) hHeld ?_ ?_
                         rotate_left
                         ·rintro w' ⟨s0, s1, s2, s3, s4, s5, s6⟩
                          go_simp
                          with_reducible rfl
                         rotate_left
                         ·simp only [Act.put, List.setIfInBounds_toArray, List.set_cons_zero, List.set_cons_succ, i64_w, i32_w]
                          rfl
                         refine take_ (i := 15) (N := some 71) (v := ?_) (a' := ?_) b16 rfl rfl (take_ofW HT_.out HW_.out (by kernel_rfl)) (fun _ _ _ h => h) (Or.inl ⟨by rfl, ?_⟩) hHeld ?_ ?_
                         rotate_left
                         ·rintro w' ⟨s0, s1, s2, s3, s4, s5, s6⟩
                          go_simp
                          with_reducible rfl
                         rotate_left
                         ·simp only [Act.put, List.setIfInBounds_toArray, List.set_cons_zero, List.set_cons_succ, i64_w, i32_w]
                          rfl
                         refine pu 16 (some 72) b17 HT_ rfl rfl ?_
                         refine pu 17 (some 73) b18 HT_ rfl rfl ?_
                         refine pu 18 (some 74) b19 HT_ rfl rfl ?_
                         refine pu 19 (some 75) b20 HT_ rfl rfl ?_
                         refine pu 20 (some 76) b21 HT_ rfl rfl ?_
                         refine pu 22 (some 78) b41 HT_ rfl rfl ?_
                         refine pu 23 (some 79) b42 HT_ rfl rfl ?_
                         refine take_ (i := 21) (N := some 77) (v := ?_) (a' := ?_) b24 rfl rfl (take_ofW HT_.out HW_.out (by kernel_rfl)) (fun _ _ _ h => h) (Or.inl ⟨by rfl, ?_⟩) hHeld ?_ ?_
                         rotate_left
                         ·rintro w' ⟨s0, s1, s2, s3, s4, s5, s6⟩
                          go_simp
                          with_reducible rfl
                         rotate_left
                         ·simp only [Act.put, List.setIfInBounds_toArray, List.set_cons_zero, List.set_cons_succ, i64_w, i32_w]
                          rfl
                         refine take_ (i := 24) (N := some 80) (v := ?_) (a' := ?_) b25 rfl rfl (take_ofW HT_.out HW_.out (by kernel_rfl)) (fun _ _ _ h => h) (Or.inl ⟨by rfl, ?_⟩) hHeld ?_ ?_
                         rotate_left
                         ·rintro w' ⟨s0, s1, s2, s3, s4, s5, s6⟩
                          go_simp
                          with_reducible rfl
                         rotate_left
                         ·simp only [Act.put, List.setIfInBounds_toArray, List.set_cons_zero, List.set_cons_succ, i64_w, i32_w]
                          rfl
                         refine pu 25 (some 81) b26 HT_ rfl rfl ?_
                         refine pu 26 (some 82) b27 HT_ rfl rfl ?_
                         refine pu 27 (some 83) b28 HT_ rfl rfl ?_
                         refine pu 28 (some 84) b29 HT_ rfl rfl ?_
                         refine pu 29 (some 85) b30 HT_ rfl rfl ?_
                         refine pu 31 (some 87) b43 HT_ rfl rfl ?_
                         refine pu 32 (some 88) b44 HT_ rfl rfl ?_
                         refine pu 34 (some 90) b45 HT_ rfl rfl ?_
                         refine pu 35 (some 91) b46 HT_ rfl rfl ?_
                         refine take_ (i := 30) (N := some 86) (v := ?_) (a' := ?_) b47 rfl rfl (take_ofW HT_.out HW_.out (by kernel_rfl)) (fun _ _ _ h => h) (Or.inl ⟨by rfl, ?_⟩) hHeld ?_ ?_
                         rotate_left
                         ·rintro w' ⟨s0, s1, s2, s3, s4, s5, s6⟩
                          go_simp
                          with_reducible rfl
                         rotate_left
                         ·simp only [Act.put, List.setIfInBounds_toArray, List.set_cons_zero, List.set_cons_succ, i64_w, i32_w]
                          rfl
                         refine take_ (i := 33) (N := some 89) (v := ?_) (a' := ?_) b36 rfl rfl (take_ofW HT_.out HW_.out (by kernel_rfl)) (fun _ _ _ h => h) (Or.inl ⟨by rfl, ?_⟩) hHeld ?_ ?_
                         rotate_left
                         ·rintro w' ⟨s0, s1, s2, s3, s4, s5, s6⟩
                          go_simp
                          with_reducible rfl
                         rotate_left
                         ·simp only [Act.put, List.setIfInBounds_toArray, List.set_cons_zero, List.set_cons_succ, i64_w, i32_w]
                          rfl
                         refine take_ (i := 36) (N := some 92) (v := ?_) (a' := ?_) b37 rfl rfl (take_ofW HT_.out HW_.out (by kernel_rfl)) (fun _ _ _ h => h) (Or.inl ⟨by rfl, ?_⟩) hHeld ?_ ?_
                         rotate_left
                         ·rintro w' ⟨s0, s1, s2, s3, s4, s5, s6⟩
                          go_simp
                          with_reducible rfl
                         rotate_left
                         ·simp only [Act.put, List.setIfInBounds_toArray, List.set_cons_zero, List.set_cons_succ, i64_w, i32_w]
                          rfl
                         refine one_ (i := 37) (N := some 93) b38 rfl rfl (one_of HT_.out (by kernel_rfl)) (by decide) (fun K hK => ?_)
                         refine goes_ Try.func12 (by kernel_rfl) rfl #[.int .i64 (rd (rd_L2 t155 x8_2) 0), .int .i64 (rd (rd_L2 t155 x8_2) 1), .int .i64 (rd (rd_L2 t155 x8_2) 2)] (by rfl) rfl rfl (by (try simp only [List.map_toArray, List.map_cons, List.map_nil]); first | done | rfl | (simp only [List.length_drop, List.length_take]; rfl)) ?_
                         with_reducible refine (impl_StickThree.calls k2 (rd (rd_L2 t155 x8_2) 0) (rd (rd_L2 t155 x8_2) 1) (rd (rd_L2 t155 x8_2) 2) true _ A36.out).mono ?_
                         rintro e w57 ⟨rfl, hb⟩
                         have HS0_ := (hb.cell (World.block_lt_of_cell? _ _ (hHeld.1))).trans (hHeld.1)
                         have HS1_ := (hb.cell (World.block_lt_of_cell? _ _ (hHeld.2.1))).trans (hHeld.2.1)
                         have HS2_ := (hb.cell (World.block_lt_of_cell? _ _ (hHeld.2.2.1))).trans (hHeld.2.2.1)
                         have HS3_ := (hb.cell (World.block_lt_of_cell? _ _ (hHeld.2.2.2.1))).trans (hHeld.2.2.2.1)
                         have HS4_ := (hb.cell (World.block_lt_of_cell? _ _ (hHeld.2.2.2.2.1))).trans (hHeld.2.2.2.2.1)
                         have HS5_ := (hb.cell (World.block_lt_of_cell? _ _ (hHeld.2.2.2.2.2.1))).trans (hHeld.2.2.2.2.2.1)
                         have HS6_ := (hb.cell (World.block_lt_of_cell? _ _ (hHeld.2.2.2.2.2.2))).trans (hHeld.2.2.2.2.2.2)
                         refine ⟨_, rfl, ?_⟩
                         have n0_ := Aside0.mk (Kd.S_below (by (with_reducible repeat (first | apply Kd.S_alloc | apply Kd.S_drewN | apply Kd.S_drew)); exact HO_4.out) hb)
                         have n1_ := Aside0.mk (Kd.R_below (by (with_reducible repeat (first | apply Kd.R_alloc | apply Kd.R_drewN | apply Kd.R_drew)); exact HL165_0.out) hb)
                         have n2_ := Aside0.mk (Kd.C_below (by (with_reducible repeat (first | apply Kd.C_alloc | apply Kd.C_drewN | apply Kd.C_drew)); exact HR165_0.out) hb)
                         have n3_ := Aside0.mk (below_step (by repeat (first | (with_reducible first | exact HB.out | apply below_alloc | apply pw_below_drewN | apply below_drew1) | exact HB.out)) hb)
                         clear HO_4
                         clear HL165_0
                         clear HR165_0
                         clear HB
                         have HO_4 := n0_
                         have HL165_0 := n1_
                         have HR165_0 := n2_
                         have HB := n3_
                         clear n0_ n1_ n2_ n3_
                         (try clear hb)
                         (try clear hb2)
                         (try clear hk)
                         (try clear hi)
                         refine hK.out _ _ ⟨HS0_, HS1_, HS2_, HS3_, HS4_, HS5_, HS6_⟩ (fun hHeld => ?_)
                         clear hK K
                         refine norm_ (a' := ?_) ?_ ?_
                         rotate_left
                         ·show Act.put _ (some 93) _ = _
                          simp only [Act.put, List.setIfInBounds_toArray, List.set_cons_zero, List.set_cons_succ, i64_w, i32_w]
                          rfl
                         refine pu 38 (some 94) b39 HT_ rfl rfl ?_
                         refine pu 39 (some 95) b40 HT_ rfl rfl ?_
                         refine done_ (done_of HT_.out (by kernel_rfl)) ?_
                         try go_wp2
                         have n0_ := Aside0.mk (Kd.S_drew HO_4.out)
                         have n1_ := Aside0.mk (Kd.R_drew HL165_0.out)
                         have n2_ := Aside0.mk (Kd.C_drew HR165_0.out)
                         have n3_ := Aside0.mk (below_drew1 HB.out)
                         clear HO_4
                         clear HL165_0
                         clear HR165_0
                         clear HB
                         have HO_4 := n0_
                         have HL165_0 := n1_
                         have HR165_0 := n2_
                         have HB := n3_
                         clear n0_ n1_ n2_ n3_
                         have p175 : 0 ≤ (0 : Int) := (by omega)
                         have q175 : 0 < ((rd_L2 t155 x8_2).length : Int) := of_decide_eq_true (by first | (with_reducible assumption) | assumption)
                         obtain ⟨ad175, e175, hx175_0⟩ := Kd.at_int (by repeat (first | (with_reducible exact HR165_0.out) | (with_reducible refine Kd.C_alloc ?_ _) | (with_reducible refine Kd.C_drewN ?_ _) | (with_reducible refine Kd.C_drew ?_) | exact HR165_0.out)) 0 p175 q175
                         obtain rfl : ad167 = ad175 := (by injection e175)
                         have qi175 : (0 < (rd_L2 t155 x8_2).length) = True := eq_true (by omega)
                         (try rw [show ((0 : Int)).toNat = 0 from rfl] at hx175_0)
                         (try rw [Addr.add_zero'] at hx175_0)
                         replace p175 := eq_true p175
                         replace q175 := eq_true q175
                         have p176 : 0 ≤ ((ji39) : Int) := of_decide_eq_true (by first | (with_reducible assumption) | assumption)
                         have q176 : (ji39) < (t155.length : Int) := of_decide_eq_true (by first | (with_reducible assumption) | assumption)
                         obtain ⟨ad176, A176_0, c176_0, e176, hx176_0, hl176_0, hi176_0⟩ := at_L2 (Kd.S_reads' HO_4.out).2.2 (ji39) p176 q176
                         obtain rfl : ad165 = ad176 := (by injection e176)
                         obtain ⟨ce176, hce176, hMe176, hcc176⟩ := Kd.S_get HO_4.out [] (ji39) p176 (by first | exact q176 | exact of_decide_eq_true (by first | (with_reducible assumption) | assumption) | (have e_ := (Kd.S_reads' HO_4.out).1; omega))
                         obtain ⟨ve176_0, rfl, ge176_0⟩ := hMe176
                         have hv176_0 := hcc176 0 _ rfl
                         rw [Nat.add_zero, show ((Kd.slice 3 (Kd.int .i64))).sz = 1 from rfl, Nat.mul_one] at hv176_0
                         replace hv176_0 := Option.some.inj (hv176_0.symm.trans hx176_0)
                         rw [hv176_0] at ge176_0
                         have HL176_0 := Aside0.mk (show Kd.R (Kd.int .i64) 3 _ _ _ _ (rd_L2 t155 (ji39)) from ge176_0)
                         clear hv176_0 ge176_0
                         clear hcc176 hce176
                         have HR176_0 := Aside0.mk hi176_0
                         have HC176_0 := Aside0.mk hl176_0
                         clear hi176_0 hl176_0
                         replace p176 := eq_true p176
                         replace q176 := eq_true q176
                         have p177 : 0 ≤ (0 : Int) := (by omega)
                         have q177 : 0 < ((rd_L2 t155 (ji39)).length : Int) := of_decide_eq_true (by first | (with_reducible assumption) | assumption)
                         obtain ⟨ad177, e177, hx177_0⟩ := Kd.at_int (by repeat (first | (with_reducible exact HR176_0.out) | (with_reducible refine Kd.C_alloc ?_ _) | (with_reducible refine Kd.C_drewN ?_ _) | (with_reducible refine Kd.C_drew ?_) | exact HR176_0.out)) 0 p177 q177
                         cases e177
                         have qi177 : (0 < (rd_L2 t155 (ji39)).length) = True := eq_true (by omega)
                         (try rw [show ((0 : Int)).toNat = 0 from rfl] at hx177_0)
                         (try rw [Addr.add_zero'] at hx177_0)
                         replace p177 := eq_true p177
                         replace q177 := eq_true q177
                         have p178 : 0 ≤ (0 : Int) := (by omega)
                         have q178 : 0 < ((rd_L2 t155 x8_2).length : Int) := of_decide_eq_true (by first | (with_reducible assumption) | assumption)
                         obtain ⟨ad178, e178, hx178_0⟩ := Kd.at_int (by repeat (first | (with_reducible exact HR165_0.out) | (with_reducible refine Kd.C_alloc ?_ _) | (with_reducible refine Kd.C_drewN ?_ _) | (with_reducible refine Kd.C_drew ?_) | exact HR165_0.out)) 0 p178 q178
                         obtain rfl : ad167 = ad178 := (by injection e178)
                         have qi178 : (0 < (rd_L2 t155 x8_2).length) = True := eq_true (by omega)
                         (try rw [show ((0 : Int)).toNat = 0 from rfl] at hx178_0)
                         (try rw [Addr.add_zero'] at hx178_0)
                         replace p178 := eq_true p178
                         replace q178 := eq_true q178
                         have p179 : 0 ≤ ((ji39) : Int) := of_decide_eq_true (by first | (with_reducible assumption) | assumption)
                         have q179 : (ji39) < (t155.length : Int) := of_decide_eq_true (by first | (with_reducible assumption) | assumption)
                         obtain ⟨ad179, A179_0, c179_0, e179, hx179_0, hl179_0, hi179_0⟩ := at_L2 (Kd.S_reads' HO_4.out).2.2 (ji39) p179 q179
                         obtain rfl : ad165 = ad179 := (by injection e179)
                         obtain ⟨ce179, hce179, hMe179, hcc179⟩ := Kd.S_get HO_4.out [] (ji39) p179 (by first | exact q179 | exact of_decide_eq_true (by first | (with_reducible assumption) | assumption) | (have e_ := (Kd.S_reads' HO_4.out).1; omega))
                         obtain ⟨ve179_0, rfl, ge179_0⟩ := hMe179
                         have hv179_0 := hcc179 0 _ rfl
                         rw [Nat.add_zero, show ((Kd.slice 3 (Kd.int .i64))).sz = 1 from rfl, Nat.mul_one] at hv179_0
                         replace hv179_0 := Option.some.inj (hv179_0.symm.trans hx179_0)
                         rw [hv179_0] at ge179_0
                         have HL179_0 := Aside0.mk (show Kd.R (Kd.int .i64) 3 _ _ _ _ (rd_L2 t155 (ji39)) from ge179_0)
                         clear hv179_0 ge179_0
                         clear hcc179 hce179
                         have HR179_0 := Aside0.mk hi179_0
                         have HC179_0 := Aside0.mk hl179_0
                         clear hi179_0 hl179_0
                         replace p179 := eq_true p179
                         replace q179 := eq_true q179
                         have ea_ := Option.some.inj (hx176_0.symm.trans hx179_0)
                         injection ea_ with ea_ en_ ec_
                         subst ea_
                         subst ec_
                         clear en_
                         have p180 : 0 ≤ (0 : Int) := (by omega)
                         have q180 : 0 < ((rd_L2 t155 (ji39)).length : Int) := of_decide_eq_true (by first | (with_reducible assumption) | assumption)
                         obtain ⟨ad180, e180, hx180_0⟩ := Kd.at_int (by repeat (first | (with_reducible exact HR179_0.out) | (with_reducible refine Kd.C_alloc ?_ _) | (with_reducible refine Kd.C_drewN ?_ _) | (with_reducible refine Kd.C_drew ?_) | exact HR179_0.out)) 0 p180 q180
                         cases e180
                         have qi180 : (0 < (rd_L2 t155 (ji39)).length) = True := eq_true (by omega)
                         (try rw [show ((0 : Int)).toNat = 0 from rfl] at hx180_0)
                         (try rw [Addr.add_zero'] at hx180_0)
                         replace p180 := eq_true p180
                         replace q180 := eq_true q180
                         have p181 : 0 ≤ (1 : Int) := (by omega)
                         have q181 : 1 < ((rd_L2 t155 x8_2).length : Int) := of_decide_eq_true (by first | (with_reducible assumption) | assumption)
                         obtain ⟨ad181, e181, hx181_0⟩ := Kd.at_int (by repeat (first | (with_reducible exact HR165_0.out) | (with_reducible refine Kd.C_alloc ?_ _) | (with_reducible refine Kd.C_drewN ?_ _) | (with_reducible refine Kd.C_drew ?_) | exact HR165_0.out)) 1 p181 q181
                         obtain rfl : ad167 = ad181 := (by injection e181)
                         (try simp only [show (1 : Int).toNat = 1 from rfl, Nat.reduceMul, Nat.reduceEqDiff, Go.Addr.add, ↓reduceIte] at hx181_0)
                         have qi181 : (1 < (rd_L2 t155 x8_2).length) = True := eq_true (by omega)
                         (try rw [show ((1 : Int)).toNat = 1 from rfl] at hx181_0)
                         replace p181 := eq_true p181
                         replace q181 := eq_true q181
                         have p182 : 0 ≤ ((ji39) : Int) := of_decide_eq_true (by first | (with_reducible assumption) | assumption)
                         have q182 : (ji39) < (t155.length : Int) := of_decide_eq_true (by first | (with_reducible assumption) | assumption)
                         obtain ⟨ad182, A182_0, c182_0, e182, hx182_0, hl182_0, hi182_0⟩ := at_L2 (Kd.S_reads' HO_4.out).2.2 (ji39) p182 q182
                         obtain rfl : ad165 = ad182 := (by injection e182)
                         obtain ⟨ce182, hce182, hMe182, hcc182⟩ := Kd.S_get HO_4.out [] (ji39) p182 (by first | exact q182 | exact of_decide_eq_true (by first | (with_reducible assumption) | assumption) | (have e_ := (Kd.S_reads' HO_4.out).1; omega))
                         obtain ⟨ve182_0, rfl, ge182_0⟩ := hMe182
                         have hv182_0 := hcc182 0 _ rfl
                         rw [Nat.add_zero, show ((Kd.slice 3 (Kd.int .i64))).sz = 1 from rfl, Nat.mul_one] at hv182_0
                         replace hv182_0 := Option.some.inj (hv182_0.symm.trans hx182_0)
                         rw [hv182_0] at ge182_0
                         have HL182_0 := Aside0.mk (show Kd.R (Kd.int .i64) 3 _ _ _ _ (rd_L2 t155 (ji39)) from ge182_0)
                         clear hv182_0 ge182_0
                         clear hcc182 hce182
                         have HR182_0 := Aside0.mk hi182_0
                         have HC182_0 := Aside0.mk hl182_0
                         clear hi182_0 hl182_0
                         replace p182 := eq_true p182
                         replace q182 := eq_true q182
                         have ea_ := Option.some.inj (hx176_0.symm.trans hx182_0)
                         injection ea_ with ea_ en_ ec_
                         subst ea_
                         subst ec_
                         clear en_
                         have p183 : 0 ≤ (1 : Int) := (by omega)
                         have q183 : 1 < ((rd_L2 t155 (ji39)).length : Int) := of_decide_eq_true (by first | (with_reducible assumption) | assumption)
                         obtain ⟨ad183, e183, hx183_0⟩ := Kd.at_int (by repeat (first | (with_reducible exact HR182_0.out) | (with_reducible refine Kd.C_alloc ?_ _) | (with_reducible refine Kd.C_drewN ?_ _) | (with_reducible refine Kd.C_drew ?_) | exact HR182_0.out)) 1 p183 q183
                         cases e183
                         (try simp only [show (1 : Int).toNat = 1 from rfl, Nat.reduceMul, Nat.reduceEqDiff, Go.Addr.add, ↓reduceIte] at hx183_0)
                         have qi183 : (1 < (rd_L2 t155 (ji39)).length) = True := eq_true (by omega)
                         (try rw [show ((1 : Int)).toNat = 1 from rfl] at hx183_0)
                         replace p183 := eq_true p183
                         replace q183 := eq_true q183
                         refine start_ (n := 41) (S := fun w' => w'.cell? ad167 = some (.int .i64 (rd (rd_L2 t155 x8_2) 0)) ∧ w'.cell? (ad165.add ((ji39)).toNat) = some (.slice (some ad177) (rd_L2 t155 (ji39)).length c176_0) ∧ w'.cell? ad177 = some (.int .i64 (rd (rd_L2 t155 (ji39)) 0)) ∧ w'.cell? ad167 = some (.int .i64 (rd (rd_L2 t155 x8_2) 0)) ∧ w'.cell? (ad165.add ((ji39)).toNat) = some (.slice (some ad177) (rd_L2 t155 (ji39)).length c176_0) ∧ w'.cell? ad177 = some (.int .i64 (rd (rd_L2 t155 (ji39)) 0)) ∧ w'.cell? ⟨ad167.block, ad167.off + 1, none⟩ = some (.int .i64 (rd (rd_L2 t155 x8_2) 1)) ∧ w'.cell? (ad165.add ((ji39)).toNat) = some (.slice (some ad177) (rd_L2 t155 (ji39)).length c176_0) ∧ w'.cell? ⟨ad177.block, ad177.off + 1, none⟩ = some (.int .i64 (rd (rd_L2 t155 (ji39)) 1))) (ds := []) b48 (by kernel_rfl) rfl rfl ⟨hx175_0, hx176_0, hx177_0, hx178_0, hx179_0, hx180_0, hx181_0, hx182_0, hx183_0⟩ (fun hHeld => ?_); refine with_tabW laws_FnTriAll.tab14 laws_FnTriAll.bits14 (fun HT_ HW_ => ?_)
                         generalize w57.drew = w58 at HO_4 HL165_0 HR165_0 HB HL176_0 HL179_0 HL182_0 HR176_0 HR179_0 HR182_0 hx175_0 hx176_0 hx177_0 hx178_0 hx179_0 hx180_0 hx181_0 hx182_0 hx183_0 hHeld ⊢
                         refine pu 0 (some 96) b49 HT_ rfl rfl ?_
                         refine pu 1 (some 97) b50 HT_ rfl rfl ?_
                         refine pu 2 (some 98) b51 HT_ rfl rfl ?_
                         refine pu 3 (some 99) b52 HT_ rfl rfl ?_
                         refine pu 4 (some 100) b53 HT_ rfl rfl ?_
                         refine pu 6 (some 102) b54 HT_ rfl rfl ?_
                         refine pu 7 (some 103) b55 HT_ rfl rfl ?_
                         refine pu 8 (some 104) b56 HT_ rfl rfl ?_
                         refine pu 9 (some 105) b57 HT_ rfl rfl ?_
                         refine take_ (i := 5) (N := some 101) (v := ?_) (a' := ?_) b58 rfl rfl (take_ofW HT_.out HW_.out (by kernel_rfl)) (fun _ _ _ h => h) (Or.inl ⟨by rfl, ?_⟩) hHeld ?_ ?_
                         rotate_left
                         ·rintro w' ⟨s0, s1, s2, s3, s4, s5, s6, s7, s8⟩
                          go_simp
                          with_reducible rfl
                         rotate_left
                         ·simp only [Act.put, List.setIfInBounds_toArray, List.set_cons_zero, List.set_cons_succ, i64_w, i32_w]
                          rfl
                         refine take_ (i := 10) (N := some 106) (v := ?_) (a' := ?_) b59 rfl rfl (take_ofW HT_.out HW_.out (by kernel_rfl)) (fun _ _ _ h => h) (Or.inl ⟨by rfl, ?_⟩) hHeld ?_ ?_
                         rotate_left
                         ·rintro w' ⟨s0, s1, s2, s3, s4, s5, s6, s7, s8⟩
                          go_simp
                          with_reducible rfl
                         rotate_left
                         ·simp only [Act.put, List.setIfInBounds_toArray, List.set_cons_zero, List.set_cons_succ, i64_w, i32_w]
                          rfl
                         refine pu 11 (some 107) b60 HT_ rfl rfl ?_
                         refine take_ (i := 12) (N := some 108) (v := ?_) (a' := ?_) b61 rfl rfl (take_ofW HT_.out HW_.out (by kernel_rfl)) (fun _ _ _ h => h) (Or.inl ⟨by rfl, ?_⟩) hHeld ?_ ?_
                         rotate_left
                         ·rintro w' ⟨s0, s1, s2, s3, s4, s5, s6, s7, s8⟩
                          go_simp
                          with_reducible rfl
                         rotate_left
                         ·simp only [Act.put, List.setIfInBounds_toArray, List.set_cons_zero, List.set_cons_succ, i64_w, i32_w]
                          rfl
                         refine pu 13 (some 109) b62 HT_ rfl rfl ?_
                         refine pu 14 (some 110) b63 HT_ rfl rfl ?_
                         refine pu 15 (some 111) b64 HT_ rfl rfl ?_
                         refine pu 16 (some 112) b65 HT_ rfl rfl ?_
                         refine pu 18 (some 114) b90 HT_ rfl rfl ?_
                         refine pu 19 (some 115) b91 HT_ rfl rfl ?_
                         refine pu 20 (some 116) b92 HT_ rfl rfl ?_
                         refine pu 21 (some 117) b93 HT_ rfl rfl ?_
                         refine take_ (i := 17) (N := some 113) (v := ?_) (a' := ?_) b70 rfl rfl (take_ofW HT_.out HW_.out (by kernel_rfl)) (fun _ _ _ h => h) (Or.inl ⟨by rfl, ?_⟩) hHeld ?_ ?_
                         rotate_left
                         ·rintro w' ⟨s0, s1, s2, s3, s4, s5, s6, s7, s8⟩
                          go_simp
                          with_reducible rfl
                         rotate_left
                         ·simp only [Act.put, List.setIfInBounds_toArray, List.set_cons_zero, List.set_cons_succ, i64_w, i32_w]
                          rfl
                         refine take_ (i := 22) (N := some 118) (v := ?_) (a' := ?_) b71 rfl rfl (take_ofW HT_.out HW_.out (by kernel_rfl)) (fun _ _ _ h => h) (Or.inl ⟨by rfl, ?_⟩) hHeld ?_ ?_
                         rotate_left
                         ·rintro w' ⟨s0, s1, s2, s3, s4, s5, s6, s7, s8⟩
                          go_simp
                          with_reducible rfl
                         rotate_left
                         ·simp only [Act.put, List.setIfInBounds_toArray, List.set_cons_zero, List.set_cons_succ, i64_w, i32_w]
                          rfl
                         refine pu 23 (some 119) b72 HT_ rfl rfl ?_
                         refine take_ (i := 24) (N := some 120) (v := ?_) (a' := ?_) b73 rfl rfl (take_ofW HT_.out HW_.out (by kernel_rfl)) (fun _ _ _ h => h) (Or.inl ⟨by rfl, ?_⟩) hHeld ?_ ?_
                         rotate_left
                         ·rintro w' ⟨s0, s1, s2, s3, s4, s5, s6, s7, s8⟩
                          go_simp
                          with_reducible rfl
                         rotate_left
                         ·simp only [Act.put, List.setIfInBounds_toArray, List.set_cons_zero, List.set_cons_succ, i64_w, i32_w]
                          rfl
                         refine pu 25 (some 121) b74 HT_ rfl rfl ?_
                         refine pu 26 (some 122) b75 HT_ rfl rfl ?_
                         refine pu 27 (some 123) b76 HT_ rfl rfl ?_
                         refine pu 28 (some 124) b77 HT_ rfl rfl ?_
                         refine pu 30 (some 126) b94 HT_ rfl rfl ?_
                         refine pu 31 (some 127) b95 HT_ rfl rfl ?_
                         refine pu 32 (some 128) b96 HT_ rfl rfl ?_
                         refine pu 33 (some 129) b97 HT_ rfl rfl ?_
                         refine take_ (i := 29) (N := some 125) (v := ?_) (a' := ?_) b82 rfl rfl (take_ofW HT_.out HW_.out (by kernel_rfl)) (fun _ _ _ h => h) (Or.inl ⟨by rfl, ?_⟩) hHeld ?_ ?_
                         rotate_left
                         ·rintro w' ⟨s0, s1, s2, s3, s4, s5, s6, s7, s8⟩
                          go_simp
                          with_reducible rfl
                         rotate_left
                         ·simp only [Act.put, List.setIfInBounds_toArray, List.set_cons_zero, List.set_cons_succ, i64_w, i32_w]
                          rfl
                         refine take_ (i := 34) (N := some 130) (v := ?_) (a' := ?_) b83 rfl rfl (take_ofW HT_.out HW_.out (by kernel_rfl)) (fun _ _ _ h => h) (Or.inl ⟨by rfl, ?_⟩) hHeld ?_ ?_
                         rotate_left
                         ·rintro w' ⟨s0, s1, s2, s3, s4, s5, s6, s7, s8⟩
                          go_simp
                          with_reducible rfl
                         rotate_left
                         ·simp only [Act.put, List.setIfInBounds_toArray, List.set_cons_zero, List.set_cons_succ, i64_w, i32_w]
                          rfl
                         refine pu 35 (some 131) b84 HT_ rfl rfl ?_
                         refine take_ (i := 36) (N := some 132) (v := ?_) (a' := ?_) b85 rfl rfl (take_ofW HT_.out HW_.out (by kernel_rfl)) (fun _ _ _ h => h) (Or.inl ⟨by rfl, ?_⟩) hHeld ?_ ?_
                         rotate_left
                         ·rintro w' ⟨s0, s1, s2, s3, s4, s5, s6, s7, s8⟩
                          go_simp
                          with_reducible rfl
                         rotate_left
                         ·simp only [Act.put, List.setIfInBounds_toArray, List.set_cons_zero, List.set_cons_succ, i64_w, i32_w]
                          rfl
                         refine pu 37 (some 133) b86 HT_ rfl rfl ?_
                         refine pu 38 (some 134) b87 HT_ rfl rfl ?_
                         refine pu 39 (some 135) b88 HT_ rfl rfl ?_
                         refine pu 40 (some 136) b89 HT_ rfl rfl ?_
                         refine done_ (done_of HT_.out (by kernel_rfl)) ?_
                         try go_wp2
                         go_roundg k2
                         case measure => have := HJ5.out; have := HK2.out; omega
                         case rel => exact ⟨(wrap64 (x8_2 + 1)), (by first | rfl | (simp; done) | (simp [*]; done) | (simp [i64_w]; done) | (simp [*, i64_w]; done)), H', ⟨by have := HJ5.out; have := HK2.out; omega⟩, ⟨by (with_reducible repeat (first | apply Kd.S_alloc | apply Kd.S_drewN | apply Kd.S_drew)); exact HO_4.out⟩, ⟨by repeat (first | (with_reducible first | exact HB.out | apply below_alloc | apply pw_below_drewN | apply below_drew1) | exact HB.out)⟩⟩
                       ·rw [if_neg c49] at H
                        exact absurd H (by simp)
                      ·rw [if_neg c48] at H
                       have c48b0 : ((rd (rd_L2 t155 x8_2) 0) == (rd (rd_L2 t155 (ji39)) 0)) = false := beq_eq_false_iff_ne.mpr c48
                       have c48b1 : ((rd (rd_L2 t155 x8_2) 0) != (rd (rd_L2 t155 (ji39)) 0)) = true := bne_iff_ne.mpr c48
                       have H' := Aside0.mk H
                       clear H
                       obtain ⟨Ao59, co59, eo59⟩ := Kd.S_slice HO_4.out
                       subst eo59
                       have p165 : 0 ≤ (x8_2 : Int) := of_decide_eq_true (by first | (with_reducible assumption) | assumption)
                       have q165 : x8_2 < (t155.length : Int) := of_decide_eq_true (by first | (with_reducible assumption) | assumption)
                       obtain ⟨ad165, A165_0, c165_0, e165, hx165_0, hl165_0, hi165_0⟩ := at_L2 (Kd.S_reads' HO_4.out).2.2 x8_2 p165 q165
                       cases e165
                       obtain ⟨ce165, hce165, hMe165, hcc165⟩ := Kd.S_get HO_4.out [] x8_2 p165 (by first | exact q165 | exact of_decide_eq_true (by first | (with_reducible assumption) | assumption) | (have e_ := (Kd.S_reads' HO_4.out).1; omega))
                       obtain ⟨ve165_0, rfl, ge165_0⟩ := hMe165
                       have hv165_0 := hcc165 0 _ rfl
                       rw [Nat.add_zero, show ((Kd.slice 3 (Kd.int .i64))).sz = 1 from rfl, Nat.mul_one] at hv165_0
                       replace hv165_0 := Option.some.inj (hv165_0.symm.trans hx165_0)
                       rw [hv165_0] at ge165_0
                       have HL165_0 := Aside0.mk (show Kd.R (Kd.int .i64) 3 _ _ _ _ (rd_L2 t155 x8_2) from ge165_0)
                       clear hv165_0 ge165_0
                       clear hcc165 hce165
                       have HR165_0 := Aside0.mk hi165_0
                       have HC165_0 := Aside0.mk hl165_0
                       clear hi165_0 hl165_0
                       replace p165 := eq_true p165
                       replace q165 := eq_true q165
                       try go_wp2
                       have n0_ := Aside0.mk (Kd.S_drew HO_4.out)
                       have n1_ := Aside0.mk (Kd.R_drew HL165_0.out)
                       have n2_ := Aside0.mk (Kd.C_drew HR165_0.out)
                       have n3_ := Aside0.mk (below_drew1 HB.out)
                       clear HO_4
                       clear HL165_0
                       clear HR165_0
                       clear HB
                       have HO_4 := n0_
                       have HL165_0 := n1_
                       have HR165_0 := n2_
                       have HB := n3_
                       clear n0_ n1_ n2_ n3_
                       have p167 : 0 ≤ (0 : Int) := (by omega)
                       have q167 : 0 < ((rd_L2 t155 x8_2).length : Int) := of_decide_eq_true (by first | (with_reducible assumption) | assumption)
                       obtain ⟨ad167, e167, hx167_0⟩ := Kd.at_int (by repeat (first | (with_reducible exact HR165_0.out) | (with_reducible refine Kd.C_alloc ?_ _) | (with_reducible refine Kd.C_drewN ?_ _) | (with_reducible refine Kd.C_drew ?_) | exact HR165_0.out)) 0 p167 q167
                       cases e167
                       have qi167 : (0 < (rd_L2 t155 x8_2).length) = True := eq_true (by omega)
                       (try rw [show ((0 : Int)).toNat = 0 from rfl] at hx167_0)
                       (try rw [Addr.add_zero'] at hx167_0)
                       replace p167 := eq_true p167
                       replace q167 := eq_true q167
                       have p168 : 0 ≤ (1 : Int) := (by omega)
                       have q168 : 1 < ((rd_L2 t155 x8_2).length : Int) := of_decide_eq_true (by first | (with_reducible assumption) | assumption)
                       obtain ⟨ad168, e168, hx168_0⟩ := Kd.at_int (by repeat (first | (with_reducible exact HR165_0.out) | (with_reducible refine Kd.C_alloc ?_ _) | (with_reducible refine Kd.C_drewN ?_ _) | (with_reducible refine Kd.C_drew ?_) | exact HR165_0.out)) 1 p168 q168
                       obtain rfl : ad167 = ad168 := (by injection e168)
                       (try simp only [show (1 : Int).toNat = 1 from rfl, Nat.reduceMul, Nat.reduceEqDiff, Go.Addr.add, ↓reduceIte] at hx168_0)
                       have qi168 : (1 < (rd_L2 t155 x8_2).length) = True := eq_true (by omega)
                       (try rw [show ((1 : Int)).toNat = 1 from rfl] at hx168_0)
                       replace p168 := eq_true p168
                       replace q168 := eq_true q168
                       have p169 : 0 ≤ (1 : Int) := (by omega)
                       have q169 : 1 < ((rd_L2 t155 x8_2).length : Int) := of_decide_eq_true (by first | (with_reducible assumption) | assumption)
                       obtain ⟨ad169, e169, hx169_0⟩ := Kd.at_int (by repeat (first | (with_reducible exact HR165_0.out) | (with_reducible refine Kd.C_alloc ?_ _) | (with_reducible refine Kd.C_drewN ?_ _) | (with_reducible refine Kd.C_drew ?_) | exact HR165_0.out)) 1 p169 q169
                       obtain rfl : ad167 = ad169 := (by injection e169)
                       (try simp only [show (1 : Int).toNat = 1 from rfl, Nat.reduceMul, Nat.reduceEqDiff, Go.Addr.add, ↓reduceIte] at hx169_0)
                       have qi169 : (1 < (rd_L2 t155 x8_2).length) = True := eq_true (by omega)
                       (try rw [show ((1 : Int)).toNat = 1 from rfl] at hx169_0)
                       replace p169 := eq_true p169
                       replace q169 := eq_true q169
                       have p170 : 0 ≤ (2 : Int) := (by omega)
                       have q170 : 2 < ((rd_L2 t155 x8_2).length : Int) := of_decide_eq_true (by first | (with_reducible assumption) | assumption)
                       obtain ⟨ad170, e170, hx170_0⟩ := Kd.at_int (by repeat (first | (with_reducible exact HR165_0.out) | (with_reducible refine Kd.C_alloc ?_ _) | (with_reducible refine Kd.C_drewN ?_ _) | (with_reducible refine Kd.C_drew ?_) | exact HR165_0.out)) 2 p170 q170
                       obtain rfl : ad167 = ad170 := (by injection e170)
                       (try simp only [show (2 : Int).toNat = 2 from rfl, Nat.reduceMul, Nat.reduceEqDiff, Go.Addr.add, ↓reduceIte] at hx170_0)
                       have qi170 : (2 < (rd_L2 t155 x8_2).length) = True := eq_true (by omega)
                       (try rw [show ((2 : Int)).toNat = 2 from rfl] at hx170_0)
                       replace p170 := eq_true p170
                       replace q170 := eq_true q170
                       have p171 : 0 ≤ (0 : Int) := (by omega)
                       have q171 : 0 < ((rd_L2 t155 x8_2).length : Int) := of_decide_eq_true (by first | (with_reducible assumption) | assumption)
                       obtain ⟨ad171, e171, hx171_0⟩ := Kd.at_int (by repeat (first | (with_reducible exact HR165_0.out) | (with_reducible refine Kd.C_alloc ?_ _) | (with_reducible refine Kd.C_drewN ?_ _) | (with_reducible refine Kd.C_drew ?_) | exact HR165_0.out)) 0 p171 q171
                       obtain rfl : ad167 = ad171 := (by injection e171)
                       have qi171 : (0 < (rd_L2 t155 x8_2).length) = True := eq_true (by omega)
                       (try rw [show ((0 : Int)).toNat = 0 from rfl] at hx171_0)
                       (try rw [Addr.add_zero'] at hx171_0)
                       replace p171 := eq_true p171
                       replace q171 := eq_true q171
                       have p172 : 0 ≤ (1 : Int) := (by omega)
                       have q172 : 1 < ((rd_L2 t155 x8_2).length : Int) := of_decide_eq_true (by first | (with_reducible assumption) | assumption)
                       obtain ⟨ad172, e172, hx172_0⟩ := Kd.at_int (by repeat (first | (with_reducible exact HR165_0.out) | (with_reducible refine Kd.C_alloc ?_ _) | (with_reducible refine Kd.C_drewN ?_ _) | (with_reducible refine Kd.C_drew ?_) | exact HR165_0.out)) 1 p172 q172
                       obtain rfl : ad167 = ad172 := (by injection e172)
                       (try simp only [show (1 : Int).toNat = 1 from rfl, Nat.reduceMul, Nat.reduceEqDiff, Go.Addr.add, ↓reduceIte] at hx172_0)
                       have qi172 : (1 < (rd_L2 t155 x8_2).length) = True := eq_true (by omega)
                       (try rw [show ((1 : Int)).toNat = 1 from rfl] at hx172_0)
                       replace p172 := eq_true p172
                       replace q172 := eq_true q172
                       have p173 : 0 ≤ (2 : Int) := (by omega)
                       have q173 : 2 < ((rd_L2 t155 x8_2).length : Int) := of_decide_eq_true (by first | (with_reducible assumption) | assumption)
                       obtain ⟨ad173, e173, hx173_0⟩ := Kd.at_int (by repeat (first | (with_reducible exact HR165_0.out) | (with_reducible refine Kd.C_alloc ?_ _) | (with_reducible refine Kd.C_drewN ?_ _) | (with_reducible refine Kd.C_drew ?_) | exact HR165_0.out)) 2 p173 q173
                       obtain rfl : ad167 = ad173 := (by injection e173)
                       (try simp only [show (2 : Int).toNat = 2 from rfl, Nat.reduceMul, Nat.reduceEqDiff, Go.Addr.add, ↓reduceIte] at hx173_0)
                       have qi173 : (2 < (rd_L2 t155 x8_2).length) = True := eq_true (by omega)
                       (try rw [show ((2 : Int)).toNat = 2 from rfl] at hx173_0)
                       replace p173 := eq_true p173
                       replace q173 := eq_true q173
                       refine start_ (n := 40) (S := fun w' => w'.cell? ad167 = some (.int .i64 (rd (rd_L2 t155 x8_2) 0)) ∧ w'.cell? ⟨ad167.block, ad167.off + 1, none⟩ = some (.int .i64 (rd (rd_L2 t155 x8_2) 1)) ∧ w'.cell? ⟨ad167.block, ad167.off + 1, none⟩ = some (.int .i64 (rd (rd_L2 t155 x8_2) 1)) ∧ w'.cell? ⟨ad167.block, ad167.off + 2, none⟩ = some (.int .i64 (rd (rd_L2 t155 x8_2) 2)) ∧ w'.cell? ad167 = some (.int .i64 (rd (rd_L2 t155 x8_2) 0)) ∧ w'.cell? ⟨ad167.block, ad167.off + 1, none⟩ = some (.int .i64 (rd (rd_L2 t155 x8_2) 1)) ∧ w'.cell? ⟨ad167.block, ad167.off + 2, none⟩ = some (.int .i64 (rd (rd_L2 t155 x8_2) 2))) (ds := []) b0 (by kernel_rfl) rfl rfl ⟨hx167_0, hx168_0, hx169_0, hx170_0, hx171_0, hx172_0, hx173_0⟩ (fun hHeld => ?_); refine with_tabW laws_FnTriAll.tab12 laws_FnTriAll.bits12 (fun HT_ HW_ => ?_)
                       generalize wr.drew = w60 at HO_4 HL165_0 HR165_0 HB hHeld ⊢
                       refine pu 0 (some 56) b1 HT_ rfl rfl ?_
                       refine pu 1 (some 57) b2 HT_ rfl rfl ?_
                       refine pu 2 (some 58) b3 HT_ rfl rfl ?_
                       refine pu 3 (some 59) b4 HT_ rfl rfl ?_
                       refine pu 4 (some 60) b5 HT_ rfl rfl ?_
                       refine pu 6 (some 62) b6 HT_ rfl rfl ?_
                       refine one_ (i := 5) (N := some 61) b7 rfl rfl (one_of HT_.out (by kernel_rfl)) (by decide) (fun K hK => ?_)
                       refine goes_ Try.func11 (by kernel_rfl) rfl #[.slice _ (rd_L2 t155 x8_2).length c165_0] (by rfl) rfl rfl (by (try simp only [List.map_toArray, List.map_cons, List.map_nil]); first | done | rfl | (simp only [List.length_drop, List.length_take]; rfl)) ?_
                       with_reducible refine (laws_total.calls k2 _ _ (rd_L2 t155 x8_2) t166 _ ?side1 ?side2 A25.out).mono ?_
                       (case side1 => repeat (first | exact (by repeat (first | (with_reducible exact HR165_0.out) | (with_reducible refine Kd.C_alloc ?_ _) | (with_reducible refine Kd.C_drewN ?_ _) | (with_reducible refine Kd.C_drew ?_) | exact HR165_0.out)) | (with_reducible refine Kd.C_alloc ?_ _) | (with_reducible refine Kd.C_drewN ?_ _) | (with_reducible refine Kd.C_drew ?_)))
                       (case side2 => exact HC165_0.out)
                       rintro e w' ⟨rfl, ⟨nd, rfl⟩⟩
                       refine ⟨_, rfl, ?_⟩
                       refine hK.out _ _ ⟨hHeld.1, hHeld.2.1, hHeld.2.2.1, hHeld.2.2.2.1, hHeld.2.2.2.2.1, hHeld.2.2.2.2.2.1, hHeld.2.2.2.2.2.2⟩ (fun hHeld => ?_)
                       clear hK K
                       refine norm_ (a' := ?_) ?_ ?_
                       rotate_left
                       ·show Act.put _ (some 61) _ = _
                        simp only [Act.put, List.setIfInBounds_toArray, List.set_cons_zero, List.set_cons_succ, i64_w, i32_w]
                        rfl
                       refine pu 7 (some 63) b8 HT_ rfl rfl ?_
                       refine pu 8 (some 64) b9 HT_ rfl rfl ?_
                       refine pu 9 (some 65) b10 HT_ rfl rfl ?_
                       refine pu 10 (some 66) b11 HT_ rfl rfl ?_
                       refine pu 11 (some 67) b12 HT_ rfl rfl ?_
                       refine pu 13 (some 69) b13 HT_ rfl rfl ?_
                       refine pu 14 (some 70) b14 HT_ rfl rfl ?_
                       refine take_ (i := 12) (N := some 68) (v := ?_) (a' := ?_) b15 rfl rfl (take_ofW HT_.out HW_.out (by kernel_rfl)) (fun _ _ _ h => h) (Or.inl ⟨by rfl, ?_⟩) hHeld ?_ ?_
                       rotate_left
                       ·rintro w' ⟨s0, s1, s2, s3, s4, s5, s6⟩
                        go_simp
                        with_reducible rfl
                       rotate_left
                       ·simp only [Act.put, List.setIfInBounds_toArray, List.set_cons_zero, List.set_cons_succ, i64_w, i32_w]
                        rfl
                       refine take_ (i := 15) (N := some 71) (v := ?_) (a' := ?_) b16 rfl rfl (take_ofW HT_.out HW_.out (by kernel_rfl)) (fun _ _ _ h => h) (Or.inl ⟨by rfl, ?_⟩) hHeld ?_ ?_
                       rotate_left
                       ·rintro w' ⟨s0, s1, s2, s3, s4, s5, s6⟩
                        go_simp
                        with_reducible rfl
                       rotate_left
                       ·simp only [Act.put, List.setIfInBounds_toArray, List.set_cons_zero, List.set_cons_succ, i64_w, i32_w]
                        rfl
                       refine pu 16 (some 72) b17 HT_ rfl rfl ?_
                       refine pu 17 (some 73) b18 HT_ rfl rfl ?_
                       refine pu 18 (some 74) b19 HT_ rfl rfl ?_
                       refine pu 19 (some 75) b20 HT_ rfl rfl ?_
                       refine pu 20 (some 76) b21 HT_ rfl rfl ?_
                       refine pu 22 (some 78) b41 HT_ rfl rfl ?_
                       refine pu 23 (some 79) b42 HT_ rfl rfl ?_
                       refine take_ (i := 21) (N := some 77) (v := ?_) (a' := ?_) b24 rfl rfl (take_ofW HT_.out HW_.out (by kernel_rfl)) (fun _ _ _ h => h) (Or.inl ⟨by rfl, ?_⟩) hHeld ?_ ?_
                       rotate_left
                       ·rintro w' ⟨s0, s1, s2, s3, s4, s5, s6⟩
                        go_simp
                        with_reducible rfl
                       rotate_left
                       ·simp only [Act.put, List.setIfInBounds_toArray, List.set_cons_zero, List.set_cons_succ, i64_w, i32_w]
                        rfl
                       refine take_ (i := 24) (N := some 80) (v := ?_) (a' := ?_) b25 rfl rfl (take_ofW HT_.out HW_.out (by kernel_rfl)) (fun _ _ _ h => h) (Or.inl ⟨by rfl, ?_⟩) hHeld ?_ ?_
                       rotate_left
                       ·rintro w' ⟨s0, s1, s2, s3, s4, s5, s6⟩
                        go_simp
                        with_reducible rfl
                       rotate_left
                       ·simp only [Act.put, List.setIfInBounds_toArray, List.set_cons_zero, List.set_cons_succ, i64_w, i32_w]
                        rfl
                       refine pu 25 (some 81) b26 HT_ rfl rfl ?_
                       refine pu 26 (some 82) b27 HT_ rfl rfl ?_
                       refine pu 27 (some 83) b28 HT_ rfl rfl ?_
                       refine pu 28 (some 84) b29 HT_ rfl rfl ?_
                       refine pu 29 (some 85) b30 HT_ rfl rfl ?_
                       refine pu 31 (some 87) b43 HT_ rfl rfl ?_
                       refine pu 32 (some 88) b44 HT_ rfl rfl ?_
                       refine pu 34 (some 90) b45 HT_ rfl rfl ?_
                       refine pu 35 (some 91) b46 HT_ rfl rfl ?_
                       refine take_ (i := 30) (N := some 86) (v := ?_) (a' := ?_) b47 rfl rfl (take_ofW HT_.out HW_.out (by kernel_rfl)) (fun _ _ _ h => h) (Or.inl ⟨by rfl, ?_⟩) hHeld ?_ ?_
                       rotate_left
                       ·rintro w' ⟨s0, s1, s2, s3, s4, s5, s6⟩
                        go_simp
                        with_reducible rfl
                       rotate_left
                       ·simp only [Act.put, List.setIfInBounds_toArray, List.set_cons_zero, List.set_cons_succ, i64_w, i32_w]
                        rfl
                       refine take_ (i := 33) (N := some 89) (v := ?_) (a' := ?_) b36 rfl rfl (take_ofW HT_.out HW_.out (by kernel_rfl)) (fun _ _ _ h => h) (Or.inl ⟨by rfl, ?_⟩) hHeld ?_ ?_
                       rotate_left
                       ·rintro w' ⟨s0, s1, s2, s3, s4, s5, s6⟩
                        go_simp
                        with_reducible rfl
                       rotate_left
                       ·simp only [Act.put, List.setIfInBounds_toArray, List.set_cons_zero, List.set_cons_succ, i64_w, i32_w]
                        rfl
                       refine take_ (i := 36) (N := some 92) (v := ?_) (a' := ?_) b37 rfl rfl (take_ofW HT_.out HW_.out (by kernel_rfl)) (fun _ _ _ h => h) (Or.inl ⟨by rfl, ?_⟩) hHeld ?_ ?_
                       rotate_left
                       ·rintro w' ⟨s0, s1, s2, s3, s4, s5, s6⟩
                        go_simp
                        with_reducible rfl
                       rotate_left
                       ·simp only [Act.put, List.setIfInBounds_toArray, List.set_cons_zero, List.set_cons_succ, i64_w, i32_w]
                        rfl
                       refine one_ (i := 37) (N := some 93) b38 rfl rfl (one_of HT_.out (by kernel_rfl)) (by decide) (fun K hK => ?_)
                       refine goes_ Try.func12 (by kernel_rfl) rfl #[.int .i64 (rd (rd_L2 t155 x8_2) 0), .int .i64 (rd (rd_L2 t155 x8_2) 1), .int .i64 (rd (rd_L2 t155 x8_2) 2)] (by rfl) rfl rfl (by (try simp only [List.map_toArray, List.map_cons, List.map_nil]); first | done | rfl | (simp only [List.length_drop, List.length_take]; rfl)) ?_
                       with_reducible refine (impl_StickThree.calls k2 (rd (rd_L2 t155 x8_2) 0) (rd (rd_L2 t155 x8_2) 1) (rd (rd_L2 t155 x8_2) 2) true _ A36.out).mono ?_
                       rintro e w61 ⟨rfl, hb⟩
                       have HS0_ := (hb.cell (World.block_lt_of_cell? _ _ (hHeld.1))).trans (hHeld.1)
                       have HS1_ := (hb.cell (World.block_lt_of_cell? _ _ (hHeld.2.1))).trans (hHeld.2.1)
                       have HS2_ := (hb.cell (World.block_lt_of_cell? _ _ (hHeld.2.2.1))).trans (hHeld.2.2.1)
                       have HS3_ := (hb.cell (World.block_lt_of_cell? _ _ (hHeld.2.2.2.1))).trans (hHeld.2.2.2.1)
                       have HS4_ := (hb.cell (World.block_lt_of_cell? _ _ (hHeld.2.2.2.2.1))).trans (hHeld.2.2.2.2.1)
                       have HS5_ := (hb.cell (World.block_lt_of_cell? _ _ (hHeld.2.2.2.2.2.1))).trans (hHeld.2.2.2.2.2.1)
                       have HS6_ := (hb.cell (World.block_lt_of_cell? _ _ (hHeld.2.2.2.2.2.2))).trans (hHeld.2.2.2.2.2.2)
                       refine ⟨_, rfl, ?_⟩
                       have n0_ := Aside0.mk (Kd.S_below (by (with_reducible repeat (first | apply Kd.S_alloc | apply Kd.S_drewN | apply Kd.S_drew)); exact HO_4.out) hb)
                       have n1_ := Aside0.mk (Kd.R_below (by (with_reducible repeat (first | apply Kd.R_alloc | apply Kd.R_drewN | apply Kd.R_drew)); exact HL165_0.out) hb)
                       have n2_ := Aside0.mk (Kd.C_below (by (with_reducible repeat (first | apply Kd.C_alloc | apply Kd.C_drewN | apply Kd.C_drew)); exact HR165_0.out) hb)
                       have n3_ := Aside0.mk (below_step (by repeat (first | (with_reducible first | exact HB.out | apply below_alloc | apply pw_below_drewN | apply below_drew1) | exact HB.out)) hb)
                       clear HO_4
                       clear HL165_0
                       clear HR165_0
                       clear HB
                       have HO_4 := n0_
                       have HL165_0 := n1_
                       have HR165_0 := n2_
                       have HB := n3_
                       clear n0_ n1_ n2_ n3_
                       (try clear hb)
                       (try clear hb2)
                       (try clear hk)
                       (try clear hi)
                       refine hK.out _ _ ⟨HS0_, HS1_, HS2_, HS3_, HS4_, HS5_, HS6_⟩ (fun hHeld => ?_)
                       clear hK K
                       refine norm_ (a' := ?_) ?_ ?_
                       rotate_left
                       ·show Act.put _ (some 93) _ = _
                        simp only [Act.put, List.setIfInBounds_toArray, List.set_cons_zero, List.set_cons_succ, i64_w, i32_w]
                        rfl
                       refine pu 38 (some 94) b39 HT_ rfl rfl ?_
                       refine pu 39 (some 95) b40 HT_ rfl rfl ?_
                       refine done_ (done_of HT_.out (by kernel_rfl)) ?_
                       try go_wp2
                       have n0_ := Aside0.mk (Kd.S_drew HO_4.out)
                       have n1_ := Aside0.mk (Kd.R_drew HL165_0.out)
                       have n2_ := Aside0.mk (Kd.C_drew HR165_0.out)
                       have n3_ := Aside0.mk (below_drew1 HB.out)
                       clear HO_4
                       clear HL165_0
                       clear HR165_0
                       clear HB
                       have HO_4 := n0_
                       have HL165_0 := n1_
                       have HR165_0 := n2_
                       have HB := n3_
                       clear n0_ n1_ n2_ n3_
                       have p175 : 0 ≤ (0 : Int) := (by omega)
                       have q175 : 0 < ((rd_L2 t155 x8_2).length : Int) := of_decide_eq_true (by first | (with_reducible assumption) | assumption)
                       obtain ⟨ad175, e175, hx175_0⟩ := Kd.at_int (by repeat (first | (with_reducible exact HR165_0.out) | (with_reducible refine Kd.C_alloc ?_ _) | (with_reducible refine Kd.C_drewN ?_ _) | (with_reducible refine Kd.C_drew ?_) | exact HR165_0.out)) 0 p175 q175
                       obtain rfl : ad167 = ad175 := (by injection e175)
                       have qi175 : (0 < (rd_L2 t155 x8_2).length) = True := eq_true (by omega)
                       (try rw [show ((0 : Int)).toNat = 0 from rfl] at hx175_0)
                       (try rw [Addr.add_zero'] at hx175_0)
                       replace p175 := eq_true p175
                       replace q175 := eq_true q175
                       have p176 : 0 ≤ ((ji39) : Int) := of_decide_eq_true (by first | (with_reducible assumption) | assumption)
                       have q176 : (ji39) < (t155.length : Int) := of_decide_eq_true (by first | (with_reducible assumption) | assumption)
                       obtain ⟨ad176, A176_0, c176_0, e176, hx176_0, hl176_0, hi176_0⟩ := at_L2 (Kd.S_reads' HO_4.out).2.2 (ji39) p176 q176
                       obtain rfl : ad165 = ad176 := (by injection e176)
                       obtain ⟨ce176, hce176, hMe176, hcc176⟩ := Kd.S_get HO_4.out [] (ji39) p176 (by first | exact q176 | exact of_decide_eq_true (by first | (with_reducible assumption) | assumption) | (have e_ := (Kd.S_reads' HO_4.out).1; omega))
                       obtain ⟨ve176_0, rfl, ge176_0⟩ := hMe176
                       have hv176_0 := hcc176 0 _ rfl
                       rw [Nat.add_zero, show ((Kd.slice 3 (Kd.int .i64))).sz = 1 from rfl, Nat.mul_one] at hv176_0
                       replace hv176_0 := Option.some.inj (hv176_0.symm.trans hx176_0)
                       rw [hv176_0] at ge176_0
                       have HL176_0 := Aside0.mk (show Kd.R (Kd.int .i64) 3 _ _ _ _ (rd_L2 t155 (ji39)) from ge176_0)
                       clear hv176_0 ge176_0
                       clear hcc176 hce176
                       have HR176_0 := Aside0.mk hi176_0
                       have HC176_0 := Aside0.mk hl176_0
                       clear hi176_0 hl176_0
                       replace p176 := eq_true p176
                       replace q176 := eq_true q176
                       have p177 : 0 ≤ (0 : Int) := (by omega)
                       have q177 : 0 < ((rd_L2 t155 (ji39)).length : Int) := of_decide_eq_true (by first | (with_reducible assumption) | assumption)
                       obtain ⟨ad177, e177, hx177_0⟩ := Kd.at_int (by repeat (first | (with_reducible exact HR176_0.out) | (with_reducible refine Kd.C_alloc ?_ _) | (with_reducible refine Kd.C_drewN ?_ _) | (with_reducible refine Kd.C_drew ?_) | exact HR176_0.out)) 0 p177 q177
                       cases e177
                       have qi177 : (0 < (rd_L2 t155 (ji39)).length) = True := eq_true (by omega)
                       (try rw [show ((0 : Int)).toNat = 0 from rfl] at hx177_0)
                       (try rw [Addr.add_zero'] at hx177_0)
                       replace p177 := eq_true p177
                       replace q177 := eq_true q177
                       have p178 : 0 ≤ (0 : Int) := (by omega)
                       have q178 : 0 < ((rd_L2 t155 x8_2).length : Int) := of_decide_eq_true (by first | (with_reducible assumption) | assumption)
                       obtain ⟨ad178, e178, hx178_0⟩ := Kd.at_int (by repeat (first | (with_reducible exact HR165_0.out) | (with_reducible refine Kd.C_alloc ?_ _) | (with_reducible refine Kd.C_drewN ?_ _) | (with_reducible refine Kd.C_drew ?_) | exact HR165_0.out)) 0 p178 q178
                       obtain rfl : ad167 = ad178 := (by injection e178)
                       have qi178 : (0 < (rd_L2 t155 x8_2).length) = True := eq_true (by omega)
                       (try rw [show ((0 : Int)).toNat = 0 from rfl] at hx178_0)
                       (try rw [Addr.add_zero'] at hx178_0)
                       replace p178 := eq_true p178
                       replace q178 := eq_true q178
                       have p179 : 0 ≤ ((ji39) : Int) := of_decide_eq_true (by first | (with_reducible assumption) | assumption)
                       have q179 : (ji39) < (t155.length : Int) := of_decide_eq_true (by first | (with_reducible assumption) | assumption)
                       obtain ⟨ad179, A179_0, c179_0, e179, hx179_0, hl179_0, hi179_0⟩ := at_L2 (Kd.S_reads' HO_4.out).2.2 (ji39) p179 q179
                       obtain rfl : ad165 = ad179 := (by injection e179)
                       obtain ⟨ce179, hce179, hMe179, hcc179⟩ := Kd.S_get HO_4.out [] (ji39) p179 (by first | exact q179 | exact of_decide_eq_true (by first | (with_reducible assumption) | assumption) | (have e_ := (Kd.S_reads' HO_4.out).1; omega))
                       obtain ⟨ve179_0, rfl, ge179_0⟩ := hMe179
                       have hv179_0 := hcc179 0 _ rfl
                       rw [Nat.add_zero, show ((Kd.slice 3 (Kd.int .i64))).sz = 1 from rfl, Nat.mul_one] at hv179_0
                       replace hv179_0 := Option.some.inj (hv179_0.symm.trans hx179_0)
                       rw [hv179_0] at ge179_0
                       have HL179_0 := Aside0.mk (show Kd.R (Kd.int .i64) 3 _ _ _ _ (rd_L2 t155 (ji39)) from ge179_0)
                       clear hv179_0 ge179_0
                       clear hcc179 hce179
                       have HR179_0 := Aside0.mk hi179_0
                       have HC179_0 := Aside0.mk hl179_0
                       clear hi179_0 hl179_0
                       replace p179 := eq_true p179
                       replace q179 := eq_true q179
                       have ea_ := Option.some.inj (hx176_0.symm.trans hx179_0)
                       injection ea_ with ea_ en_ ec_
                       subst ea_
                       subst ec_
                       clear en_
                       have p180 : 0 ≤ (0 : Int) := (by omega)
                       have q180 : 0 < ((rd_L2 t155 (ji39)).length : Int) := of_decide_eq_true (by first | (with_reducible assumption) | assumption)
                       obtain ⟨ad180, e180, hx180_0⟩ := Kd.at_int (by repeat (first | (with_reducible exact HR179_0.out) | (with_reducible refine Kd.C_alloc ?_ _) | (with_reducible refine Kd.C_drewN ?_ _) | (with_reducible refine Kd.C_drew ?_) | exact HR179_0.out)) 0 p180 q180
                       cases e180
                       have qi180 : (0 < (rd_L2 t155 (ji39)).length) = True := eq_true (by omega)
                       (try rw [show ((0 : Int)).toNat = 0 from rfl] at hx180_0)
                       (try rw [Addr.add_zero'] at hx180_0)
                       replace p180 := eq_true p180
                       replace q180 := eq_true q180
                       refine start_ (n := 41) (S := fun w' => w'.cell? ad167 = some (.int .i64 (rd (rd_L2 t155 x8_2) 0)) ∧ w'.cell? (ad165.add ((ji39)).toNat) = some (.slice (some ad177) (rd_L2 t155 (ji39)).length c176_0) ∧ w'.cell? ad177 = some (.int .i64 (rd (rd_L2 t155 (ji39)) 0)) ∧ w'.cell? ad167 = some (.int .i64 (rd (rd_L2 t155 x8_2) 0)) ∧ w'.cell? (ad165.add ((ji39)).toNat) = some (.slice (some ad177) (rd_L2 t155 (ji39)).length c176_0) ∧ w'.cell? ad177 = some (.int .i64 (rd (rd_L2 t155 (ji39)) 0))) (ds := []) b48 (by kernel_rfl) rfl rfl ⟨hx175_0, hx176_0, hx177_0, hx178_0, hx179_0, hx180_0⟩ (fun hHeld => ?_); refine with_tabW laws_FnTriAll.tab14 laws_FnTriAll.bits14 (fun HT_ HW_ => ?_)
                       generalize w61.drew = w62 at HO_4 HL165_0 HR165_0 HB HL176_0 HL179_0 HR176_0 HR179_0 hx175_0 hx176_0 hx177_0 hx178_0 hx179_0 hx180_0 hHeld ⊢
                       refine pu 0 (some 96) b49 HT_ rfl rfl ?_
                       refine pu 1 (some 97) b50 HT_ rfl rfl ?_
                       refine pu 2 (some 98) b51 HT_ rfl rfl ?_
                       refine pu 3 (some 99) b52 HT_ rfl rfl ?_
                       refine pu 4 (some 100) b53 HT_ rfl rfl ?_
                       refine pu 6 (some 102) b54 HT_ rfl rfl ?_
                       refine pu 7 (some 103) b55 HT_ rfl rfl ?_
                       refine pu 8 (some 104) b56 HT_ rfl rfl ?_
                       refine pu 9 (some 105) b57 HT_ rfl rfl ?_
                       refine take_ (i := 5) (N := some 101) (v := ?_) (a' := ?_) b58 rfl rfl (take_ofW HT_.out HW_.out (by kernel_rfl)) (fun _ _ _ h => h) (Or.inl ⟨by rfl, ?_⟩) hHeld ?_ ?_
                       rotate_left
                       ·rintro w' ⟨s0, s1, s2, s3, s4, s5⟩
                        go_simp
                        with_reducible rfl
                       rotate_left
                       ·simp only [Act.put, List.setIfInBounds_toArray, List.set_cons_zero, List.set_cons_succ, i64_w, i32_w]
                        rfl
                       refine take_ (i := 10) (N := some 106) (v := ?_) (a' := ?_) b59 rfl rfl (take_ofW HT_.out HW_.out (by kernel_rfl)) (fun _ _ _ h => h) (Or.inl ⟨by rfl, ?_⟩) hHeld ?_ ?_
                       rotate_left
                       ·rintro w' ⟨s0, s1, s2, s3, s4, s5⟩
                        go_simp
                        with_reducible rfl
                       rotate_left
                       ·simp only [Act.put, List.setIfInBounds_toArray, List.set_cons_zero, List.set_cons_succ, i64_w, i32_w]
                        rfl
                       refine pu 11 (some 107) b60 HT_ rfl rfl ?_
                       refine take_ (i := 12) (N := some 108) (v := ?_) (a' := ?_) b61 rfl rfl (take_ofW HT_.out HW_.out (by kernel_rfl)) (fun _ _ _ h => h) (Or.inl ⟨by rfl, ?_⟩) hHeld ?_ ?_
                       rotate_left
                       ·rintro w' ⟨s0, s1, s2, s3, s4, s5⟩
                        go_simp
                        with_reducible rfl
                       rotate_left
                       ·simp only [Act.put, List.setIfInBounds_toArray, List.set_cons_zero, List.set_cons_succ, i64_w, i32_w]
                        rfl
                       refine pu 13 (some 109) b62 HT_ rfl rfl ?_
                       refine pu 14 (some 110) b63 HT_ rfl rfl ?_
                       refine pu 15 (some 111) b64 HT_ rfl rfl ?_
                       refine pu 16 (some 112) b65 HT_ rfl rfl ?_
                       refine pu 18 (some 114) b90 HT_ rfl rfl ?_
                       refine pu 19 (some 115) b91 HT_ rfl rfl ?_
                       refine pu 20 (some 116) b92 HT_ rfl rfl ?_
                       refine pu 21 (some 117) b93 HT_ rfl rfl ?_
                       refine take_ (i := 17) (N := some 113) (v := ?_) (a' := ?_) b70 rfl rfl (take_ofW HT_.out HW_.out (by kernel_rfl)) (fun _ _ _ h => h) (Or.inl ⟨by rfl, ?_⟩) hHeld ?_ ?_
                       rotate_left
                       ·rintro w' ⟨s0, s1, s2, s3, s4, s5⟩
                        go_simp
                        with_reducible rfl
                       rotate_left
                       ·simp only [Act.put, List.setIfInBounds_toArray, List.set_cons_zero, List.set_cons_succ, i64_w, i32_w]
                        rfl
                       refine take_ (i := 22) (N := some 118) (v := ?_) (a' := ?_) b71 rfl rfl (take_ofW HT_.out HW_.out (by kernel_rfl)) (fun _ _ _ h => h) (Or.inl ⟨by rfl, ?_⟩) hHeld ?_ ?_
                       rotate_left
                       ·rintro w' ⟨s0, s1, s2, s3, s4, s5⟩
                        go_simp
                        with_reducible rfl
                       rotate_left
                       ·simp only [Act.put, List.setIfInBounds_toArray, List.set_cons_zero, List.set_cons_succ, i64_w, i32_w]
                        rfl
                       refine pu 23 (some 119) b72 HT_ rfl rfl ?_
                       refine take_ (i := 24) (N := some 120) (v := ?_) (a' := ?_) b73 rfl rfl (take_ofW HT_.out HW_.out (by kernel_rfl)) (fun _ _ _ h => h) (Or.inl ⟨by rfl, ?_⟩) hHeld ?_ ?_
                       rotate_left
                       ·rintro w' ⟨s0, s1, s2, s3, s4, s5⟩
                        go_simp
                        with_reducible rfl
                       rotate_left
                       ·simp only [Act.put, List.setIfInBounds_toArray, List.set_cons_zero, List.set_cons_succ, i64_w, i32_w]
                        rfl
                       refine pu 25 (some 121) b74 HT_ rfl rfl ?_
                       refine pu 26 (some 122) b75 HT_ rfl rfl ?_
                       refine pn 27 (some 123) b76 HT_ rfl rfl ?_
                       refine pn 28 (some 124) b77 HT_ rfl rfl ?_
                       refine pn 29 (some 125) b78 HT_ rfl rfl ?_
                       refine pn 30 (some 126) b79 HT_ rfl rfl ?_
                       refine pn 31 (some 127) b80 HT_ rfl rfl ?_
                       refine pn 32 (some 128) b81 HT_ rfl rfl ?_
                       refine pn 33 (some 129) b82 HT_ rfl rfl ?_
                       refine pn 34 (some 130) b83 HT_ rfl rfl ?_
                       refine pn 35 (some 131) b84 HT_ rfl rfl ?_
                       refine pn 36 (some 132) b85 HT_ rfl rfl ?_
                       refine pn 37 (some 133) b86 HT_ rfl rfl ?_
                       refine pu 38 (some 134) b87 HT_ rfl rfl ?_
                       refine pu 39 (some 135) b88 HT_ rfl rfl ?_
                       refine pu 40 (some 136) b89 HT_ rfl rfl ?_
                       refine done_ (done_of HT_.out (by kernel_rfl)) ?_
                       try go_wp2
                       go_roundg k2
                       case measure => have := HJ5.out; have := HK2.out; omega
                       case rel => exact ⟨(wrap64 (x8_2 + 1)), (by first | rfl | (simp; done) | (simp [*]; done) | (simp [i64_w]; done) | (simp [*, i64_w]; done)), H', ⟨by have := HJ5.out; have := HK2.out; omega⟩, ⟨by (with_reducible repeat (first | apply Kd.S_alloc | apply Kd.S_drewN | apply Kd.S_drew)); exact HO_4.out⟩, ⟨by repeat (first | (with_reducible first | exact HB.out | apply below_alloc | apply pw_below_drewN | apply below_drew1) | exact HB.out)⟩⟩
                    ·rw [if_neg c42] at H
                     exact absurd H (by simp)
                   ·rw [if_neg c41] at H
                    exact absurd H (by simp)
                  ·rw [if_neg c40] at H
                   exact absurd H (by simp)
                 ·rw [if_neg c38] at H
                  have c38b0 : decide (0 < x8_2) = false := decide_eq_false c38
                  clear c38
                  have H' := Aside0.mk H
                  clear H
                  obtain ⟨Ao63, co63, eo63⟩ := Kd.S_slice HO_4.out
                  subst eo63
                  have p165 : 0 ≤ (x8_2 : Int) := of_decide_eq_true (by first | (with_reducible assumption) | assumption)
                  have q165 : x8_2 < (t155.length : Int) := of_decide_eq_true (by first | (with_reducible assumption) | assumption)
                  obtain ⟨ad165, A165_0, c165_0, e165, hx165_0, hl165_0, hi165_0⟩ := at_L2 (Kd.S_reads' HO_4.out).2.2 x8_2 p165 q165
                  cases e165
                  obtain ⟨ce165, hce165, hMe165, hcc165⟩ := Kd.S_get HO_4.out [] x8_2 p165 (by first | exact q165 | exact of_decide_eq_true (by first | (with_reducible assumption) | assumption) | (have e_ := (Kd.S_reads' HO_4.out).1; omega))
                  obtain ⟨ve165_0, rfl, ge165_0⟩ := hMe165
                  have hv165_0 := hcc165 0 _ rfl
                  rw [Nat.add_zero, show ((Kd.slice 3 (Kd.int .i64))).sz = 1 from rfl, Nat.mul_one] at hv165_0
                  replace hv165_0 := Option.some.inj (hv165_0.symm.trans hx165_0)
                  rw [hv165_0] at ge165_0
                  have HL165_0 := Aside0.mk (show Kd.R (Kd.int .i64) 3 _ _ _ _ (rd_L2 t155 x8_2) from ge165_0)
                  clear hv165_0 ge165_0
                  clear hcc165 hce165
                  have HR165_0 := Aside0.mk hi165_0
                  have HC165_0 := Aside0.mk hl165_0
                  clear hi165_0 hl165_0
                  replace p165 := eq_true p165
                  replace q165 := eq_true q165
                  try go_wp2
                  have n0_ := Aside0.mk (Kd.S_drew HO_4.out)
                  have n1_ := Aside0.mk (Kd.R_drew HL165_0.out)
                  have n2_ := Aside0.mk (Kd.C_drew HR165_0.out)
                  have n3_ := Aside0.mk (below_drew1 HB.out)
                  clear HO_4
                  clear HL165_0
                  clear HR165_0
                  clear HB
                  have HO_4 := n0_
                  have HL165_0 := n1_
                  have HR165_0 := n2_
                  have HB := n3_
                  clear n0_ n1_ n2_ n3_
                  have p167 : 0 ≤ (0 : Int) := (by omega)
                  have q167 : 0 < ((rd_L2 t155 x8_2).length : Int) := of_decide_eq_true (by first | (with_reducible assumption) | assumption)
                  obtain ⟨ad167, e167, hx167_0⟩ := Kd.at_int (by repeat (first | (with_reducible exact HR165_0.out) | (with_reducible refine Kd.C_alloc ?_ _) | (with_reducible refine Kd.C_drewN ?_ _) | (with_reducible refine Kd.C_drew ?_) | exact HR165_0.out)) 0 p167 q167
                  cases e167
                  have qi167 : (0 < (rd_L2 t155 x8_2).length) = True := eq_true (by omega)
                  (try rw [show ((0 : Int)).toNat = 0 from rfl] at hx167_0)
                  (try rw [Addr.add_zero'] at hx167_0)
                  replace p167 := eq_true p167
                  replace q167 := eq_true q167
                  have p168 : 0 ≤ (1 : Int) := (by omega)
                  have q168 : 1 < ((rd_L2 t155 x8_2).length : Int) := of_decide_eq_true (by first | (with_reducible assumption) | assumption)
                  obtain ⟨ad168, e168, hx168_0⟩ := Kd.at_int (by repeat (first | (with_reducible exact HR165_0.out) | (with_reducible refine Kd.C_alloc ?_ _) | (with_reducible refine Kd.C_drewN ?_ _) | (with_reducible refine Kd.C_drew ?_) | exact HR165_0.out)) 1 p168 q168
                  obtain rfl : ad167 = ad168 := (by injection e168)
                  (try simp only [show (1 : Int).toNat = 1 from rfl, Nat.reduceMul, Nat.reduceEqDiff, Go.Addr.add, ↓reduceIte] at hx168_0)
                  have qi168 : (1 < (rd_L2 t155 x8_2).length) = True := eq_true (by omega)
                  (try rw [show ((1 : Int)).toNat = 1 from rfl] at hx168_0)
                  replace p168 := eq_true p168
                  replace q168 := eq_true q168
                  have p169 : 0 ≤ (1 : Int) := (by omega)
                  have q169 : 1 < ((rd_L2 t155 x8_2).length : Int) := of_decide_eq_true (by first | (with_reducible assumption) | assumption)
                  obtain ⟨ad169, e169, hx169_0⟩ := Kd.at_int (by repeat (first | (with_reducible exact HR165_0.out) | (with_reducible refine Kd.C_alloc ?_ _) | (with_reducible refine Kd.C_drewN ?_ _) | (with_reducible refine Kd.C_drew ?_) | exact HR165_0.out)) 1 p169 q169
                  obtain rfl : ad167 = ad169 := (by injection e169)
                  (try simp only [show (1 : Int).toNat = 1 from rfl, Nat.reduceMul, Nat.reduceEqDiff, Go.Addr.add, ↓reduceIte] at hx169_0)
                  have qi169 : (1 < (rd_L2 t155 x8_2).length) = True := eq_true (by omega)
                  (try rw [show ((1 : Int)).toNat = 1 from rfl] at hx169_0)
                  replace p169 := eq_true p169
                  replace q169 := eq_true q169
                  have p170 : 0 ≤ (2 : Int) := (by omega)
                  have q170 : 2 < ((rd_L2 t155 x8_2).length : Int) := of_decide_eq_true (by first | (with_reducible assumption) | assumption)
                  obtain ⟨ad170, e170, hx170_0⟩ := Kd.at_int (by repeat (first | (with_reducible exact HR165_0.out) | (with_reducible refine Kd.C_alloc ?_ _) | (with_reducible refine Kd.C_drewN ?_ _) | (with_reducible refine Kd.C_drew ?_) | exact HR165_0.out)) 2 p170 q170
                  obtain rfl : ad167 = ad170 := (by injection e170)
                  (try simp only [show (2 : Int).toNat = 2 from rfl, Nat.reduceMul, Nat.reduceEqDiff, Go.Addr.add, ↓reduceIte] at hx170_0)
                  have qi170 : (2 < (rd_L2 t155 x8_2).length) = True := eq_true (by omega)
                  (try rw [show ((2 : Int)).toNat = 2 from rfl] at hx170_0)
                  replace p170 := eq_true p170
                  replace q170 := eq_true q170
                  have p171 : 0 ≤ (0 : Int) := (by omega)
                  have q171 : 0 < ((rd_L2 t155 x8_2).length : Int) := of_decide_eq_true (by first | (with_reducible assumption) | assumption)
                  obtain ⟨ad171, e171, hx171_0⟩ := Kd.at_int (by repeat (first | (with_reducible exact HR165_0.out) | (with_reducible refine Kd.C_alloc ?_ _) | (with_reducible refine Kd.C_drewN ?_ _) | (with_reducible refine Kd.C_drew ?_) | exact HR165_0.out)) 0 p171 q171
                  obtain rfl : ad167 = ad171 := (by injection e171)
                  have qi171 : (0 < (rd_L2 t155 x8_2).length) = True := eq_true (by omega)
                  (try rw [show ((0 : Int)).toNat = 0 from rfl] at hx171_0)
                  (try rw [Addr.add_zero'] at hx171_0)
                  replace p171 := eq_true p171
                  replace q171 := eq_true q171
                  have p172 : 0 ≤ (1 : Int) := (by omega)
                  have q172 : 1 < ((rd_L2 t155 x8_2).length : Int) := of_decide_eq_true (by first | (with_reducible assumption) | assumption)
                  obtain ⟨ad172, e172, hx172_0⟩ := Kd.at_int (by repeat (first | (with_reducible exact HR165_0.out) | (with_reducible refine Kd.C_alloc ?_ _) | (with_reducible refine Kd.C_drewN ?_ _) | (with_reducible refine Kd.C_drew ?_) | exact HR165_0.out)) 1 p172 q172
                  obtain rfl : ad167 = ad172 := (by injection e172)
                  (try simp only [show (1 : Int).toNat = 1 from rfl, Nat.reduceMul, Nat.reduceEqDiff, Go.Addr.add, ↓reduceIte] at hx172_0)
                  have qi172 : (1 < (rd_L2 t155 x8_2).length) = True := eq_true (by omega)
                  (try rw [show ((1 : Int)).toNat = 1 from rfl] at hx172_0)
                  replace p172 := eq_true p172
                  replace q172 := eq_true q172
                  have p173 : 0 ≤ (2 : Int) := (by omega)
                  have q173 : 2 < ((rd_L2 t155 x8_2).length : Int) := of_decide_eq_true (by first | (with_reducible assumption) | assumption)
                  obtain ⟨ad173, e173, hx173_0⟩ := Kd.at_int (by repeat (first | (with_reducible exact HR165_0.out) | (with_reducible refine Kd.C_alloc ?_ _) | (with_reducible refine Kd.C_drewN ?_ _) | (with_reducible refine Kd.C_drew ?_) | exact HR165_0.out)) 2 p173 q173
                  obtain rfl : ad167 = ad173 := (by injection e173)
                  (try simp only [show (2 : Int).toNat = 2 from rfl, Nat.reduceMul, Nat.reduceEqDiff, Go.Addr.add, ↓reduceIte] at hx173_0)
                  have qi173 : (2 < (rd_L2 t155 x8_2).length) = True := eq_true (by omega)
                  (try rw [show ((2 : Int)).toNat = 2 from rfl] at hx173_0)
                  replace p173 := eq_true p173
                  replace q173 := eq_true q173
                  refine start_ (n := 40) (S := fun w' => w'.cell? ad167 = some (.int .i64 (rd (rd_L2 t155 x8_2) 0)) ∧ w'.cell? ⟨ad167.block, ad167.off + 1, none⟩ = some (.int .i64 (rd (rd_L2 t155 x8_2) 1)) ∧ w'.cell? ⟨ad167.block, ad167.off + 1, none⟩ = some (.int .i64 (rd (rd_L2 t155 x8_2) 1)) ∧ w'.cell? ⟨ad167.block, ad167.off + 2, none⟩ = some (.int .i64 (rd (rd_L2 t155 x8_2) 2)) ∧ w'.cell? ad167 = some (.int .i64 (rd (rd_L2 t155 x8_2) 0)) ∧ w'.cell? ⟨ad167.block, ad167.off + 1, none⟩ = some (.int .i64 (rd (rd_L2 t155 x8_2) 1)) ∧ w'.cell? ⟨ad167.block, ad167.off + 2, none⟩ = some (.int .i64 (rd (rd_L2 t155 x8_2) 2))) (ds := []) b0 (by kernel_rfl) rfl rfl ⟨hx167_0, hx168_0, hx169_0, hx170_0, hx171_0, hx172_0, hx173_0⟩ (fun hHeld => ?_); refine with_tabW laws_FnTriAll.tab12 laws_FnTriAll.bits12 (fun HT_ HW_ => ?_)
                  generalize wr.drew = w64 at HO_4 HL165_0 HR165_0 HB hHeld ⊢
                  refine pu 0 (some 56) b1 HT_ rfl rfl ?_
                  refine pu 1 (some 57) b2 HT_ rfl rfl ?_
                  refine pu 2 (some 58) b3 HT_ rfl rfl ?_
                  refine pu 3 (some 59) b4 HT_ rfl rfl ?_
                  refine pu 4 (some 60) b5 HT_ rfl rfl ?_
                  refine pu 6 (some 62) b6 HT_ rfl rfl ?_
                  refine one_ (i := 5) (N := some 61) b7 rfl rfl (one_of HT_.out (by kernel_rfl)) (by decide) (fun K hK => ?_)
                  refine goes_ Try.func11 (by kernel_rfl) rfl #[.slice _ (rd_L2 t155 x8_2).length c165_0] (by rfl) rfl rfl (by (try simp only [List.map_toArray, List.map_cons, List.map_nil]); first | done | rfl | (simp only [List.length_drop, List.length_take]; rfl)) ?_
                  with_reducible refine (laws_total.calls k2 _ _ (rd_L2 t155 x8_2) t166 _ ?side1 ?side2 A25.out).mono ?_
                  (case side1 => repeat (first | exact (by repeat (first | (with_reducible exact HR165_0.out) | (with_reducible refine Kd.C_alloc ?_ _) | (with_reducible refine Kd.C_drewN ?_ _) | (with_reducible refine Kd.C_drew ?_) | exact HR165_0.out)) | (with_reducible refine Kd.C_alloc ?_ _) | (with_reducible refine Kd.C_drewN ?_ _) | (with_reducible refine Kd.C_drew ?_)))
                  (case side2 => exact HC165_0.out)
                  rintro e w' ⟨rfl, ⟨nd, rfl⟩⟩
                  refine ⟨_, rfl, ?_⟩
                  refine hK.out _ _ ⟨hHeld.1, hHeld.2.1, hHeld.2.2.1, hHeld.2.2.2.1, hHeld.2.2.2.2.1, hHeld.2.2.2.2.2.1, hHeld.2.2.2.2.2.2⟩ (fun hHeld => ?_)
                  clear hK K
                  refine norm_ (a' := ?_) ?_ ?_
                  rotate_left
                  ·show Act.put _ (some 61) _ = _
                   simp only [Act.put, List.setIfInBounds_toArray, List.set_cons_zero, List.set_cons_succ, i64_w, i32_w]
                   rfl
                  refine pu 7 (some 63) b8 HT_ rfl rfl ?_
                  refine pu 8 (some 64) b9 HT_ rfl rfl ?_
                  refine pu 9 (some 65) b10 HT_ rfl rfl ?_
                  refine pu 10 (some 66) b11 HT_ rfl rfl ?_
                  refine pu 11 (some 67) b12 HT_ rfl rfl ?_
                  refine pu 13 (some 69) b13 HT_ rfl rfl ?_
                  refine pu 14 (some 70) b14 HT_ rfl rfl ?_
                  refine take_ (i := 12) (N := some 68) (v := ?_) (a' := ?_) b15 rfl rfl (take_ofW HT_.out HW_.out (by kernel_rfl)) (fun _ _ _ h => h) (Or.inl ⟨by rfl, ?_⟩) hHeld ?_ ?_
                  rotate_left
                  ·rintro w' ⟨s0, s1, s2, s3, s4, s5, s6⟩
                   go_simp
                   with_reducible rfl
                  rotate_left
                  ·simp only [Act.put, List.setIfInBounds_toArray, List.set_cons_zero, List.set_cons_succ, i64_w, i32_w]
                   rfl
                  refine take_ (i := 15) (N := some 71) (v := ?_) (a' := ?_) b16 rfl rfl (take_ofW HT_.out HW_.out (by kernel_rfl)) (fun _ _ _ h => h) (Or.inl ⟨by rfl, ?_⟩) hHeld ?_ ?_
                  rotate_left
                  ·rintro w' ⟨s0, s1, s2, s3, s4, s5, s6⟩
                   go_simp
                   with_reducible rfl
                  rotate_left
                  ·simp only [Act.put, List.setIfInBounds_toArray, List.set_cons_zero, List.set_cons_succ, i64_w, i32_w]
                   rfl
                  refine pu 16 (some 72) b17 HT_ rfl rfl ?_
                  refine pu 17 (some 73) b18 HT_ rfl rfl ?_
                  refine pu 18 (some 74) b19 HT_ rfl rfl ?_
                  refine pu 19 (some 75) b20 HT_ rfl rfl ?_
                  refine pu 20 (some 76) b21 HT_ rfl rfl ?_
                  refine pu 22 (some 78) b41 HT_ rfl rfl ?_
                  refine pu 23 (some 79) b42 HT_ rfl rfl ?_
                  refine take_ (i := 21) (N := some 77) (v := ?_) (a' := ?_) b24 rfl rfl (take_ofW HT_.out HW_.out (by kernel_rfl)) (fun _ _ _ h => h) (Or.inl ⟨by rfl, ?_⟩) hHeld ?_ ?_
                  rotate_left
                  ·rintro w' ⟨s0, s1, s2, s3, s4, s5, s6⟩
                   go_simp
                   with_reducible rfl
                  rotate_left
                  ·simp only [Act.put, List.setIfInBounds_toArray, List.set_cons_zero, List.set_cons_succ, i64_w, i32_w]
                   rfl
                  refine take_ (i := 24) (N := some 80) (v := ?_) (a' := ?_) b25 rfl rfl (take_ofW HT_.out HW_.out (by kernel_rfl)) (fun _ _ _ h => h) (Or.inl ⟨by rfl, ?_⟩) hHeld ?_ ?_
                  rotate_left
                  ·rintro w' ⟨s0, s1, s2, s3, s4, s5, s6⟩
                   go_simp
                   with_reducible rfl
                  rotate_left
                  ·simp only [Act.put, List.setIfInBounds_toArray, List.set_cons_zero, List.set_cons_succ, i64_w, i32_w]
                   rfl
                  refine pu 25 (some 81) b26 HT_ rfl rfl ?_
                  refine pu 26 (some 82) b27 HT_ rfl rfl ?_
                  refine pu 27 (some 83) b28 HT_ rfl rfl ?_
                  refine pu 28 (some 84) b29 HT_ rfl rfl ?_
                  refine pu 29 (some 85) b30 HT_ rfl rfl ?_
                  refine pu 31 (some 87) b43 HT_ rfl rfl ?_
                  refine pu 32 (some 88) b44 HT_ rfl rfl ?_
                  refine pu 34 (some 90) b45 HT_ rfl rfl ?_
                  refine pu 35 (some 91) b46 HT_ rfl rfl ?_
                  refine take_ (i := 30) (N := some 86) (v := ?_) (a' := ?_) b47 rfl rfl (take_ofW HT_.out HW_.out (by kernel_rfl)) (fun _ _ _ h => h) (Or.inl ⟨by rfl, ?_⟩) hHeld ?_ ?_
                  rotate_left
                  ·rintro w' ⟨s0, s1, s2, s3, s4, s5, s6⟩
                   go_simp
                   with_reducible rfl
                  rotate_left
                  ·simp only [Act.put, List.setIfInBounds_toArray, List.set_cons_zero, List.set_cons_succ, i64_w, i32_w]
                   rfl
                  refine take_ (i := 33) (N := some 89) (v := ?_) (a' := ?_) b36 rfl rfl (take_ofW HT_.out HW_.out (by kernel_rfl)) (fun _ _ _ h => h) (Or.inl ⟨by rfl, ?_⟩) hHeld ?_ ?_
                  rotate_left
                  ·rintro w' ⟨s0, s1, s2, s3, s4, s5, s6⟩
                   go_simp
                   with_reducible rfl
                  rotate_left
                  ·simp only [Act.put, List.setIfInBounds_toArray, List.set_cons_zero, List.set_cons_succ, i64_w, i32_w]
                   rfl
                  refine take_ (i := 36) (N := some 92) (v := ?_) (a' := ?_) b37 rfl rfl (take_ofW HT_.out HW_.out (by kernel_rfl)) (fun _ _ _ h => h) (Or.inl ⟨by rfl, ?_⟩) hHeld ?_ ?_
                  rotate_left
                  ·rintro w' ⟨s0, s1, s2, s3, s4, s5, s6⟩
                   go_simp
                   with_reducible rfl
                  rotate_left
                  ·simp only [Act.put, List.setIfInBounds_toArray, List.set_cons_zero, List.set_cons_succ, i64_w, i32_w]
                   rfl
                  refine one_ (i := 37) (N := some 93) b38 rfl rfl (one_of HT_.out (by kernel_rfl)) (by decide) (fun K hK => ?_)
                  refine goes_ Try.func12 (by kernel_rfl) rfl #[.int .i64 (rd (rd_L2 t155 x8_2) 0), .int .i64 (rd (rd_L2 t155 x8_2) 1), .int .i64 (rd (rd_L2 t155 x8_2) 2)] (by rfl) rfl rfl (by (try simp only [List.map_toArray, List.map_cons, List.map_nil]); first | done | rfl | (simp only [List.length_drop, List.length_take]; rfl)) ?_
                  with_reducible refine (impl_StickThree.calls k2 (rd (rd_L2 t155 x8_2) 0) (rd (rd_L2 t155 x8_2) 1) (rd (rd_L2 t155 x8_2) 2) true _ A36.out).mono ?_
                  rintro e w65 ⟨rfl, hb⟩
                  have HS0_ := (hb.cell (World.block_lt_of_cell? _ _ (hHeld.1))).trans (hHeld.1)
                  have HS1_ := (hb.cell (World.block_lt_of_cell? _ _ (hHeld.2.1))).trans (hHeld.2.1)
                  have HS2_ := (hb.cell (World.block_lt_of_cell? _ _ (hHeld.2.2.1))).trans (hHeld.2.2.1)
                  have HS3_ := (hb.cell (World.block_lt_of_cell? _ _ (hHeld.2.2.2.1))).trans (hHeld.2.2.2.1)
                  have HS4_ := (hb.cell (World.block_lt_of_cell? _ _ (hHeld.2.2.2.2.1))).trans (hHeld.2.2.2.2.1)
                  have HS5_ := (hb.cell (World.block_lt_of_cell? _ _ (hHeld.2.2.2.2.2.1))).trans (hHeld.2.2.2.2.2.1)
                  have HS6_ := (hb.cell (World.block_lt_of_cell? _ _ (hHeld.2.2.2.2.2.2))).trans (hHeld.2.2.2.2.2.2)
                  refine ⟨_, rfl, ?_⟩
                  have n0_ := Aside0.mk (Kd.S_below (by (with_reducible repeat (first | apply Kd.S_alloc | apply Kd.S_drewN | apply Kd.S_drew)); exact HO_4.out) hb)
                  have n1_ := Aside0.mk (Kd.R_below (by (with_reducible repeat (first | apply Kd.R_alloc | apply Kd.R_drewN | apply Kd.R_drew)); exact HL165_0.out) hb)
                  have n2_ := Aside0.mk (Kd.C_below (by (with_reducible repeat (first | apply Kd.C_alloc | apply Kd.C_drewN | apply Kd.C_drew)); exact HR165_0.out) hb)
                  have n3_ := Aside0.mk (below_step (by repeat (first | (with_reducible first | exact HB.out | apply below_alloc | apply pw_below_drewN | apply below_drew1) | exact HB.out)) hb)
                  clear HO_4
                  clear HL165_0
                  clear HR165_0
                  clear HB
                  have HO_4 := n0_
                  have HL165_0 := n1_
                  have HR165_0 := n2_
                  have HB := n3_
                  clear n0_ n1_ n2_ n3_
                  (try clear hb)
                  (try clear hb2)
                  (try clear hk)
                  (try clear hi)
                  refine hK.out _ _ ⟨HS0_, HS1_, HS2_, HS3_, HS4_, HS5_, HS6_⟩ (fun hHeld => ?_)
                  clear hK K
                  refine norm_ (a' := ?_) ?_ ?_
                  rotate_left
                  ·show Act.put _ (some 93) _ = _
                   simp only [Act.put, List.setIfInBounds_toArray, List.set_cons_zero, List.set_cons_succ, i64_w, i32_w]
                   rfl
                  refine pu 38 (some 94) b39 HT_ rfl rfl ?_
                  refine pu 39 (some 95) b40 HT_ rfl rfl ?_
                  refine done_ (done_of HT_.out (by kernel_rfl)) ?_
                  try go_wp2
                  have n0_ := Aside0.mk (Kd.S_drew HO_4.out)
                  have n1_ := Aside0.mk (Kd.R_drew HL165_0.out)
                  have n2_ := Aside0.mk (Kd.C_drew HR165_0.out)
                  have n3_ := Aside0.mk (below_drew1 HB.out)
                  clear HO_4
                  clear HL165_0
                  clear HR165_0
                  clear HB
                  have HO_4 := n0_
                  have HL165_0 := n1_
                  have HR165_0 := n2_
                  have HB := n3_
                  clear n0_ n1_ n2_ n3_
                  refine start_ (n := 41) (S := fun w' => True) (ds := []) b48 (by kernel_rfl) rfl rfl trivial (fun hHeld => ?_); refine with_tabW laws_FnTriAll.tab14 laws_FnTriAll.bits14 (fun HT_ HW_ => ?_)
                  generalize w65.drew = w66 at HO_4 HL165_0 HR165_0 HB hHeld ⊢
                  refine pu 0 (some 96) b49 HT_ rfl rfl ?_
                  refine pu 1 (some 97) b50 HT_ rfl rfl ?_
                  refine pu 2 (some 98) b51 HT_ rfl rfl ?_
                  refine pn 3 (some 99) b52 HT_ rfl rfl ?_
                  refine pn 4 (some 100) b53 HT_ rfl rfl ?_
                  refine pn 5 (some 101) b98 HT_ rfl rfl ?_
                  refine pn 6 (some 102) b99 HT_ rfl rfl ?_
                  refine pn 7 (some 103) b100 HT_ rfl rfl ?_
                  refine pn 8 (some 104) b101 HT_ rfl rfl ?_
                  refine pn 9 (some 105) b58 HT_ rfl rfl ?_
                  refine pn 10 (some 106) b59 HT_ rfl rfl ?_
                  refine pn 11 (some 107) b60 HT_ rfl rfl ?_
                  refine pn 12 (some 108) b61 HT_ rfl rfl ?_
                  refine pn 13 (some 109) b62 HT_ rfl rfl ?_
                  refine pn 14 (some 110) b63 HT_ rfl rfl ?_
                  refine pn 15 (some 111) b64 HT_ rfl rfl ?_
                  refine pn 16 (some 112) b65 HT_ rfl rfl ?_
                  refine pn 17 (some 113) b66 HT_ rfl rfl ?_
                  refine pn 18 (some 114) b67 HT_ rfl rfl ?_
                  refine pn 19 (some 115) b68 HT_ rfl rfl ?_
                  refine pn 20 (some 116) b69 HT_ rfl rfl ?_
                  refine pn 21 (some 117) b70 HT_ rfl rfl ?_
                  refine pn 22 (some 118) b71 HT_ rfl rfl ?_
                  refine pn 23 (some 119) b72 HT_ rfl rfl ?_
                  refine pn 24 (some 120) b73 HT_ rfl rfl ?_
                  refine pn 25 (some 121) b74 HT_ rfl rfl ?_
                  refine pn 26 (some 122) b75 HT_ rfl rfl ?_
                  refine pn 27 (some 123) b76 HT_ rfl rfl ?_
                  refine pn 28 (some 124) b77 HT_ rfl rfl ?_
                  refine pn 29 (some 125) b78 HT_ rfl rfl ?_
                  refine pn 30 (some 126) b79 HT_ rfl rfl ?_
                  refine pn 31 (some 127) b80 HT_ rfl rfl ?_
                  refine pn 32 (some 128) b81 HT_ rfl rfl ?_
                  refine pn 33 (some 129) b82 HT_ rfl rfl ?_
                  refine pn 34 (some 130) b83 HT_ rfl rfl ?_
                  refine pn 35 (some 131) b84 HT_ rfl rfl ?_
                  refine pn 36 (some 132) b85 HT_ rfl rfl ?_
                  refine pn 37 (some 133) b86 HT_ rfl rfl ?_
                  refine pn 38 (some 134) b87 HT_ rfl rfl ?_
                  refine pn 39 (some 135) b88 HT_ rfl rfl ?_
                  refine pu 40 (some 136) b89 HT_ rfl rfl ?_
                  refine done_ (done_of HT_.out (by kernel_rfl)) ?_
                  try go_wp2
                  go_roundg k2
                  case measure => have := HJ5.out; have := HK2.out; omega
                  case rel => exact ⟨(wrap64 (x8_2 + 1)), (by first | rfl | (simp; done) | (simp [*]; done) | (simp [i64_w]; done) | (simp [*, i64_w]; done)), H', ⟨by have := HJ5.out; have := HK2.out; omega⟩, ⟨by (with_reducible repeat (first | apply Kd.S_alloc | apply Kd.S_drewN | apply Kd.S_drew)); exact HO_4.out⟩, ⟨by repeat (first | (with_reducible first | exact HB.out | apply below_alloc | apply pw_below_drewN | apply below_drew1) | exact HB.out)⟩⟩
                ·replace c37 := Bool.eq_false_iff.mpr c37
                 subst c37
                 have H1 : (some false) = some r := by rw [if_neg (show ¬ (false = true) by decide)] at H; exact H
                 clear H
                 have H := H1
                 clear H1
                 obtain rfl := Option.some.inj H
                 obtain ⟨Ao67, co67, eo67⟩ := Kd.S_slice HO_4.out
                 subst eo67
                 have p165 : 0 ≤ (x8_2 : Int) := of_decide_eq_true (by first | (with_reducible assumption) | assumption)
                 have q165 : x8_2 < (t155.length : Int) := of_decide_eq_true (by first | (with_reducible assumption) | assumption)
                 obtain ⟨ad165, A165_0, c165_0, e165, hx165_0, hl165_0, hi165_0⟩ := at_L2 (Kd.S_reads' HO_4.out).2.2 x8_2 p165 q165
                 cases e165
                 obtain ⟨ce165, hce165, hMe165, hcc165⟩ := Kd.S_get HO_4.out [] x8_2 p165 (by first | exact q165 | exact of_decide_eq_true (by first | (with_reducible assumption) | assumption) | (have e_ := (Kd.S_reads' HO_4.out).1; omega))
                 obtain ⟨ve165_0, rfl, ge165_0⟩ := hMe165
                 have hv165_0 := hcc165 0 _ rfl
                 rw [Nat.add_zero, show ((Kd.slice 3 (Kd.int .i64))).sz = 1 from rfl, Nat.mul_one] at hv165_0
                 replace hv165_0 := Option.some.inj (hv165_0.symm.trans hx165_0)
                 rw [hv165_0] at ge165_0
                 have HL165_0 := Aside0.mk (show Kd.R (Kd.int .i64) 3 _ _ _ _ (rd_L2 t155 x8_2) from ge165_0)
                 clear hv165_0 ge165_0
                 clear hcc165 hce165
                 have HR165_0 := Aside0.mk hi165_0
                 have HC165_0 := Aside0.mk hl165_0
                 clear hi165_0 hl165_0
                 replace p165 := eq_true p165
                 replace q165 := eq_true q165
                 try go_wp2
                 have n0_ := Aside0.mk (Kd.S_drew HO_4.out)
                 have n1_ := Aside0.mk (Kd.R_drew HL165_0.out)
                 have n2_ := Aside0.mk (Kd.C_drew HR165_0.out)
                 have n3_ := Aside0.mk (below_drew1 HB.out)
                 clear HO_4
                 clear HL165_0
                 clear HR165_0
                 clear HB
                 have HO_4 := n0_
                 have HL165_0 := n1_
                 have HR165_0 := n2_
                 have HB := n3_
                 clear n0_ n1_ n2_ n3_
                 have p167 : 0 ≤ (0 : Int) := (by omega)
                 have q167 : 0 < ((rd_L2 t155 x8_2).length : Int) := of_decide_eq_true (by first | (with_reducible assumption) | assumption)
                 obtain ⟨ad167, e167, hx167_0⟩ := Kd.at_int (by repeat (first | (with_reducible exact HR165_0.out) | (with_reducible refine Kd.C_alloc ?_ _) | (with_reducible refine Kd.C_drewN ?_ _) | (with_reducible refine Kd.C_drew ?_) | exact HR165_0.out)) 0 p167 q167
                 cases e167
                 have qi167 : (0 < (rd_L2 t155 x8_2).length) = True := eq_true (by omega)
                 (try rw [show ((0 : Int)).toNat = 0 from rfl] at hx167_0)
                 (try rw [Addr.add_zero'] at hx167_0)
                 replace p167 := eq_true p167
                 replace q167 := eq_true q167
                 have p168 : 0 ≤ (1 : Int) := (by omega)
                 have q168 : 1 < ((rd_L2 t155 x8_2).length : Int) := of_decide_eq_true (by first | (with_reducible assumption) | assumption)
                 obtain ⟨ad168, e168, hx168_0⟩ := Kd.at_int (by repeat (first | (with_reducible exact HR165_0.out) | (with_reducible refine Kd.C_alloc ?_ _) | (with_reducible refine Kd.C_drewN ?_ _) | (with_reducible refine Kd.C_drew ?_) | exact HR165_0.out)) 1 p168 q168
                 obtain rfl : ad167 = ad168 := (by injection e168)
                 (try simp only [show (1 : Int).toNat = 1 from rfl, Nat.reduceMul, Nat.reduceEqDiff, Go.Addr.add, ↓reduceIte] at hx168_0)
                 have qi168 : (1 < (rd_L2 t155 x8_2).length) = True := eq_true (by omega)
                 (try rw [show ((1 : Int)).toNat = 1 from rfl] at hx168_0)
                 replace p168 := eq_true p168
                 replace q168 := eq_true q168
                 have p169 : 0 ≤ (1 : Int) := (by omega)
                 have q169 : 1 < ((rd_L2 t155 x8_2).length : Int) := of_decide_eq_true (by first | (with_reducible assumption) | assumption)
                 obtain ⟨ad169, e169, hx169_0⟩ := Kd.at_int (by repeat (first | (with_reducible exact HR165_0.out) | (with_reducible refine Kd.C_alloc ?_ _) | (with_reducible refine Kd.C_drewN ?_ _) | (with_reducible refine Kd.C_drew ?_) | exact HR165_0.out)) 1 p169 q169
                 obtain rfl : ad167 = ad169 := (by injection e169)
                 (try simp only [show (1 : Int).toNat = 1 from rfl, Nat.reduceMul, Nat.reduceEqDiff, Go.Addr.add, ↓reduceIte] at hx169_0)
                 have qi169 : (1 < (rd_L2 t155 x8_2).length) = True := eq_true (by omega)
                 (try rw [show ((1 : Int)).toNat = 1 from rfl] at hx169_0)
                 replace p169 := eq_true p169
                 replace q169 := eq_true q169
                 have p170 : 0 ≤ (2 : Int) := (by omega)
                 have q170 : 2 < ((rd_L2 t155 x8_2).length : Int) := of_decide_eq_true (by first | (with_reducible assumption) | assumption)
                 obtain ⟨ad170, e170, hx170_0⟩ := Kd.at_int (by repeat (first | (with_reducible exact HR165_0.out) | (with_reducible refine Kd.C_alloc ?_ _) | (with_reducible refine Kd.C_drewN ?_ _) | (with_reducible refine Kd.C_drew ?_) | exact HR165_0.out)) 2 p170 q170
                 obtain rfl : ad167 = ad170 := (by injection e170)
                 (try simp only [show (2 : Int).toNat = 2 from rfl, Nat.reduceMul, Nat.reduceEqDiff, Go.Addr.add, ↓reduceIte] at hx170_0)
                 have qi170 : (2 < (rd_L2 t155 x8_2).length) = True := eq_true (by omega)
                 (try rw [show ((2 : Int)).toNat = 2 from rfl] at hx170_0)
                 replace p170 := eq_true p170
                 replace q170 := eq_true q170
                 have p171 : 0 ≤ (0 : Int) := (by omega)
                 have q171 : 0 < ((rd_L2 t155 x8_2).length : Int) := of_decide_eq_true (by first | (with_reducible assumption) | assumption)
                 obtain ⟨ad171, e171, hx171_0⟩ := Kd.at_int (by repeat (first | (with_reducible exact HR165_0.out) | (with_reducible refine Kd.C_alloc ?_ _) | (with_reducible refine Kd.C_drewN ?_ _) | (with_reducible refine Kd.C_drew ?_) | exact HR165_0.out)) 0 p171 q171
                 obtain rfl : ad167 = ad171 := (by injection e171)
                 have qi171 : (0 < (rd_L2 t155 x8_2).length) = True := eq_true (by omega)
                 (try rw [show ((0 : Int)).toNat = 0 from rfl] at hx171_0)
                 (try rw [Addr.add_zero'] at hx171_0)
                 replace p171 := eq_true p171
                 replace q171 := eq_true q171
                 have p172 : 0 ≤ (1 : Int) := (by omega)
                 have q172 : 1 < ((rd_L2 t155 x8_2).length : Int) := of_decide_eq_true (by first | (with_reducible assumption) | assumption)
                 obtain ⟨ad172, e172, hx172_0⟩ := Kd.at_int (by repeat (first | (with_reducible exact HR165_0.out) | (with_reducible refine Kd.C_alloc ?_ _) | (with_reducible refine Kd.C_drewN ?_ _) | (with_reducible refine Kd.C_drew ?_) | exact HR165_0.out)) 1 p172 q172
                 obtain rfl : ad167 = ad172 := (by injection e172)
                 (try simp only [show (1 : Int).toNat = 1 from rfl, Nat.reduceMul, Nat.reduceEqDiff, Go.Addr.add, ↓reduceIte] at hx172_0)
                 have qi172 : (1 < (rd_L2 t155 x8_2).length) = True := eq_true (by omega)
                 (try rw [show ((1 : Int)).toNat = 1 from rfl] at hx172_0)
                 replace p172 := eq_true p172
                 replace q172 := eq_true q172
                 have p173 : 0 ≤ (2 : Int) := (by omega)
                 have q173 : 2 < ((rd_L2 t155 x8_2).length : Int) := of_decide_eq_true (by first | (with_reducible assumption) | assumption)
                 obtain ⟨ad173, e173, hx173_0⟩ := Kd.at_int (by repeat (first | (with_reducible exact HR165_0.out) | (with_reducible refine Kd.C_alloc ?_ _) | (with_reducible refine Kd.C_drewN ?_ _) | (with_reducible refine Kd.C_drew ?_) | exact HR165_0.out)) 2 p173 q173
                 obtain rfl : ad167 = ad173 := (by injection e173)
                 (try simp only [show (2 : Int).toNat = 2 from rfl, Nat.reduceMul, Nat.reduceEqDiff, Go.Addr.add, ↓reduceIte] at hx173_0)
                 have qi173 : (2 < (rd_L2 t155 x8_2).length) = True := eq_true (by omega)
                 (try rw [show ((2 : Int)).toNat = 2 from rfl] at hx173_0)
                 replace p173 := eq_true p173
                 replace q173 := eq_true q173
                 refine start_ (n := 40) (S := fun w' => w'.cell? ad167 = some (.int .i64 (rd (rd_L2 t155 x8_2) 0)) ∧ w'.cell? ⟨ad167.block, ad167.off + 1, none⟩ = some (.int .i64 (rd (rd_L2 t155 x8_2) 1)) ∧ w'.cell? ⟨ad167.block, ad167.off + 1, none⟩ = some (.int .i64 (rd (rd_L2 t155 x8_2) 1)) ∧ w'.cell? ⟨ad167.block, ad167.off + 2, none⟩ = some (.int .i64 (rd (rd_L2 t155 x8_2) 2)) ∧ w'.cell? ad167 = some (.int .i64 (rd (rd_L2 t155 x8_2) 0)) ∧ w'.cell? ⟨ad167.block, ad167.off + 1, none⟩ = some (.int .i64 (rd (rd_L2 t155 x8_2) 1)) ∧ w'.cell? ⟨ad167.block, ad167.off + 2, none⟩ = some (.int .i64 (rd (rd_L2 t155 x8_2) 2))) (ds := []) b0 (by kernel_rfl) rfl rfl ⟨hx167_0, hx168_0, hx169_0, hx170_0, hx171_0, hx172_0, hx173_0⟩ (fun hHeld => ?_); refine with_tabW laws_FnTriAll.tab12 laws_FnTriAll.bits12 (fun HT_ HW_ => ?_)
                 generalize wr.drew = w68 at HO_4 HL165_0 HR165_0 HB hHeld ⊢
                 refine pu 0 (some 56) b1 HT_ rfl rfl ?_
                 refine pu 1 (some 57) b2 HT_ rfl rfl ?_
                 refine pu 2 (some 58) b3 HT_ rfl rfl ?_
                 refine pu 3 (some 59) b4 HT_ rfl rfl ?_
                 refine pu 4 (some 60) b5 HT_ rfl rfl ?_
                 refine pu 6 (some 62) b6 HT_ rfl rfl ?_
                 refine one_ (i := 5) (N := some 61) b7 rfl rfl (one_of HT_.out (by kernel_rfl)) (by decide) (fun K hK => ?_)
                 refine goes_ Try.func11 (by kernel_rfl) rfl #[.slice _ (rd_L2 t155 x8_2).length c165_0] (by rfl) rfl rfl (by (try simp only [List.map_toArray, List.map_cons, List.map_nil]); first | done | rfl | (simp only [List.length_drop, List.length_take]; rfl)) ?_
                 with_reducible refine (laws_total.calls k2 _ _ (rd_L2 t155 x8_2) t166 _ ?side1 ?side2 A25.out).mono ?_
                 (case side1 => repeat (first | exact (by repeat (first | (with_reducible exact HR165_0.out) | (with_reducible refine Kd.C_alloc ?_ _) | (with_reducible refine Kd.C_drewN ?_ _) | (with_reducible refine Kd.C_drew ?_) | exact HR165_0.out)) | (with_reducible refine Kd.C_alloc ?_ _) | (with_reducible refine Kd.C_drewN ?_ _) | (with_reducible refine Kd.C_drew ?_)))
                 (case side2 => exact HC165_0.out)
                 rintro e w' ⟨rfl, ⟨nd, rfl⟩⟩
                 refine ⟨_, rfl, ?_⟩
                 refine hK.out _ _ ⟨hHeld.1, hHeld.2.1, hHeld.2.2.1, hHeld.2.2.2.1, hHeld.2.2.2.2.1, hHeld.2.2.2.2.2.1, hHeld.2.2.2.2.2.2⟩ (fun hHeld => ?_)
                 clear hK K
                 refine norm_ (a' := ?_) ?_ ?_
                 rotate_left
                 ·show Act.put _ (some 61) _ = _
                  simp only [Act.put, List.setIfInBounds_toArray, List.set_cons_zero, List.set_cons_succ, i64_w, i32_w]
                  rfl
                 refine pu 7 (some 63) b8 HT_ rfl rfl ?_
                 refine pu 8 (some 64) b9 HT_ rfl rfl ?_
                 refine pu 9 (some 65) b10 HT_ rfl rfl ?_
                 refine pu 10 (some 66) b11 HT_ rfl rfl ?_
                 refine pu 11 (some 67) b12 HT_ rfl rfl ?_
                 refine pu 13 (some 69) b13 HT_ rfl rfl ?_
                 refine pu 14 (some 70) b14 HT_ rfl rfl ?_
                 refine take_ (i := 12) (N := some 68) (v := ?_) (a' := ?_) b15 rfl rfl (take_ofW HT_.out HW_.out (by kernel_rfl)) (fun _ _ _ h => h) (Or.inl ⟨by rfl, ?_⟩) hHeld ?_ ?_
                 rotate_left
                 ·rintro w' ⟨s0, s1, s2, s3, s4, s5, s6⟩
                  go_simp
                  with_reducible rfl
                 rotate_left
                 ·simp only [Act.put, List.setIfInBounds_toArray, List.set_cons_zero, List.set_cons_succ, i64_w, i32_w]
                  rfl
                 refine take_ (i := 15) (N := some 71) (v := ?_) (a' := ?_) b16 rfl rfl (take_ofW HT_.out HW_.out (by kernel_rfl)) (fun _ _ _ h => h) (Or.inl ⟨by rfl, ?_⟩) hHeld ?_ ?_
                 rotate_left
                 ·rintro w' ⟨s0, s1, s2, s3, s4, s5, s6⟩
                  go_simp
                  with_reducible rfl
                 rotate_left
                 ·simp only [Act.put, List.setIfInBounds_toArray, List.set_cons_zero, List.set_cons_succ, i64_w, i32_w]
                  rfl
                 refine pu 16 (some 72) b17 HT_ rfl rfl ?_
                 refine pu 17 (some 73) b18 HT_ rfl rfl ?_
                 refine pu 18 (some 74) b19 HT_ rfl rfl ?_
                 refine pu 19 (some 75) b20 HT_ rfl rfl ?_
                 refine pu 20 (some 76) b21 HT_ rfl rfl ?_
                 refine pu 22 (some 78) b41 HT_ rfl rfl ?_
                 refine pu 23 (some 79) b42 HT_ rfl rfl ?_
                 refine take_ (i := 21) (N := some 77) (v := ?_) (a' := ?_) b24 rfl rfl (take_ofW HT_.out HW_.out (by kernel_rfl)) (fun _ _ _ h => h) (Or.inl ⟨by rfl, ?_⟩) hHeld ?_ ?_
                 rotate_left
                 ·rintro w' ⟨s0, s1, s2, s3, s4, s5, s6⟩
                  go_simp
                  with_reducible rfl
                 rotate_left
                 ·simp only [Act.put, List.setIfInBounds_toArray, List.set_cons_zero, List.set_cons_succ, i64_w, i32_w]
                  rfl
                 refine take_ (i := 24) (N := some 80) (v := ?_) (a' := ?_) b25 rfl rfl (take_ofW HT_.out HW_.out (by kernel_rfl)) (fun _ _ _ h => h) (Or.inl ⟨by rfl, ?_⟩) hHeld ?_ ?_
                 rotate_left
                 ·rintro w' ⟨s0, s1, s2, s3, s4, s5, s6⟩
                  go_simp
                  with_reducible rfl
                 rotate_left
                 ·simp only [Act.put, List.setIfInBounds_toArray, List.set_cons_zero, List.set_cons_succ, i64_w, i32_w]
                  rfl
                 refine pu 25 (some 81) b26 HT_ rfl rfl ?_
                 refine pu 26 (some 82) b27 HT_ rfl rfl ?_
                 refine pu 27 (some 83) b28 HT_ rfl rfl ?_
                 refine pu 28 (some 84) b29 HT_ rfl rfl ?_
                 refine pu 29 (some 85) b30 HT_ rfl rfl ?_
                 refine pu 31 (some 87) b43 HT_ rfl rfl ?_
                 refine pu 32 (some 88) b44 HT_ rfl rfl ?_
                 refine pu 34 (some 90) b45 HT_ rfl rfl ?_
                 refine pu 35 (some 91) b46 HT_ rfl rfl ?_
                 refine take_ (i := 30) (N := some 86) (v := ?_) (a' := ?_) b47 rfl rfl (take_ofW HT_.out HW_.out (by kernel_rfl)) (fun _ _ _ h => h) (Or.inl ⟨by rfl, ?_⟩) hHeld ?_ ?_
                 rotate_left
                 ·rintro w' ⟨s0, s1, s2, s3, s4, s5, s6⟩
                  go_simp
                  with_reducible rfl
                 rotate_left
                 ·simp only [Act.put, List.setIfInBounds_toArray, List.set_cons_zero, List.set_cons_succ, i64_w, i32_w]
                  rfl
                 refine take_ (i := 33) (N := some 89) (v := ?_) (a' := ?_) b36 rfl rfl (take_ofW HT_.out HW_.out (by kernel_rfl)) (fun _ _ _ h => h) (Or.inl ⟨by rfl, ?_⟩) hHeld ?_ ?_
                 rotate_left
                 ·rintro w' ⟨s0, s1, s2, s3, s4, s5, s6⟩
                  go_simp
                  with_reducible rfl
                 rotate_left
                 ·simp only [Act.put, List.setIfInBounds_toArray, List.set_cons_zero, List.set_cons_succ, i64_w, i32_w]
                  rfl
                 refine take_ (i := 36) (N := some 92) (v := ?_) (a' := ?_) b37 rfl rfl (take_ofW HT_.out HW_.out (by kernel_rfl)) (fun _ _ _ h => h) (Or.inl ⟨by rfl, ?_⟩) hHeld ?_ ?_
                 rotate_left
                 ·rintro w' ⟨s0, s1, s2, s3, s4, s5, s6⟩
                  go_simp
                  with_reducible rfl
                 rotate_left
                 ·simp only [Act.put, List.setIfInBounds_toArray, List.set_cons_zero, List.set_cons_succ, i64_w, i32_w]
                  rfl
                 refine one_ (i := 37) (N := some 93) b38 rfl rfl (one_of HT_.out (by kernel_rfl)) (by decide) (fun K hK => ?_)
                 refine goes_ Try.func12 (by kernel_rfl) rfl #[.int .i64 (rd (rd_L2 t155 x8_2) 0), .int .i64 (rd (rd_L2 t155 x8_2) 1), .int .i64 (rd (rd_L2 t155 x8_2) 2)] (by rfl) rfl rfl (by (try simp only [List.map_toArray, List.map_cons, List.map_nil]); first | done | rfl | (simp only [List.length_drop, List.length_take]; rfl)) ?_
                 with_reducible refine (impl_StickThree.calls k2 (rd (rd_L2 t155 x8_2) 0) (rd (rd_L2 t155 x8_2) 1) (rd (rd_L2 t155 x8_2) 2) false _ A36.out).mono ?_
                 rintro e w69 ⟨rfl, hb⟩
                 have HS0_ := (hb.cell (World.block_lt_of_cell? _ _ (hHeld.1))).trans (hHeld.1)
                 have HS1_ := (hb.cell (World.block_lt_of_cell? _ _ (hHeld.2.1))).trans (hHeld.2.1)
                 have HS2_ := (hb.cell (World.block_lt_of_cell? _ _ (hHeld.2.2.1))).trans (hHeld.2.2.1)
                 have HS3_ := (hb.cell (World.block_lt_of_cell? _ _ (hHeld.2.2.2.1))).trans (hHeld.2.2.2.1)
                 have HS4_ := (hb.cell (World.block_lt_of_cell? _ _ (hHeld.2.2.2.2.1))).trans (hHeld.2.2.2.2.1)
                 have HS5_ := (hb.cell (World.block_lt_of_cell? _ _ (hHeld.2.2.2.2.2.1))).trans (hHeld.2.2.2.2.2.1)
                 have HS6_ := (hb.cell (World.block_lt_of_cell? _ _ (hHeld.2.2.2.2.2.2))).trans (hHeld.2.2.2.2.2.2)
                 refine ⟨_, rfl, ?_⟩
                 have n0_ := Aside0.mk (Kd.S_below (by (with_reducible repeat (first | apply Kd.S_alloc | apply Kd.S_drewN | apply Kd.S_drew)); exact HO_4.out) hb)
                 have n1_ := Aside0.mk (Kd.R_below (by (with_reducible repeat (first | apply Kd.R_alloc | apply Kd.R_drewN | apply Kd.R_drew)); exact HL165_0.out) hb)
                 have n2_ := Aside0.mk (Kd.C_below (by (with_reducible repeat (first | apply Kd.C_alloc | apply Kd.C_drewN | apply Kd.C_drew)); exact HR165_0.out) hb)
                 have n3_ := Aside0.mk (below_step (by repeat (first | (with_reducible first | exact HB.out | apply below_alloc | apply pw_below_drewN | apply below_drew1) | exact HB.out)) hb)
                 clear HO_4
                 clear HL165_0
                 clear HR165_0
                 clear HB
                 have HO_4 := n0_
                 have HL165_0 := n1_
                 have HR165_0 := n2_
                 have HB := n3_
                 clear n0_ n1_ n2_ n3_
                 (try clear hb)
                 (try clear hb2)
                 (try clear hk)
                 (try clear hi)
                 refine hK.out _ _ ⟨HS0_, HS1_, HS2_, HS3_, HS4_, HS5_, HS6_⟩ (fun hHeld => ?_)
                 clear hK K
                 refine norm_ (a' := ?_) ?_ ?_
                 rotate_left
                 ·show Act.put _ (some 93) _ = _
                  simp only [Act.put, List.setIfInBounds_toArray, List.set_cons_zero, List.set_cons_succ, i64_w, i32_w]
                  rfl
                 refine pu 38 (some 94) b39 HT_ rfl rfl ?_
                 refine pu 39 (some 95) b40 HT_ rfl rfl ?_
                 refine done_ (done_of HT_.out (by kernel_rfl)) ?_
                 try go_wp2
                 go_ret
                 exact ⟨by first | rfl | (simp [errW_none, errW_some] <;> rfl) | (simp [*, errW_none, errW_some] <;> rfl) | (simp [i64_w]; done) | (simp [*, i64_w]; done) | (simp [Esame.out]; done) | (simp [*, Esame.out]; done), by repeat (first | (with_reducible first | exact HB.out | apply below_alloc | apply pw_below_drewN | apply below_drew1) | exact HB.out)⟩
              ·rw [if_neg c32] at H
               exact absurd H (by simp)
            ·rw [if_neg c28] at H
             exact absurd H (by simp)
           ·rw [if_neg c27] at H
            exact absurd H (by simp)
          ·rw [if_neg c26] at H
           have c26b0 : (t166 == t154) = false := beq_eq_false_iff_ne.mpr c26
           have c26b1 : (t166 != t154) = true := bne_iff_ne.mpr c26
           obtain rfl := Option.some.inj H
           obtain ⟨Ao70, co70, eo70⟩ := Kd.S_slice HO_4.out
           subst eo70
           have p165 : 0 ≤ (x8_2 : Int) := of_decide_eq_true (by first | (with_reducible assumption) | assumption)
           have q165 : x8_2 < (t155.length : Int) := of_decide_eq_true (by first | (with_reducible assumption) | assumption)
           obtain ⟨ad165, A165_0, c165_0, e165, hx165_0, hl165_0, hi165_0⟩ := at_L2 (Kd.S_reads' HO_4.out).2.2 x8_2 p165 q165
           cases e165
           obtain ⟨ce165, hce165, hMe165, hcc165⟩ := Kd.S_get HO_4.out [] x8_2 p165 (by first | exact q165 | exact of_decide_eq_true (by first | (with_reducible assumption) | assumption) | (have e_ := (Kd.S_reads' HO_4.out).1; omega))
           obtain ⟨ve165_0, rfl, ge165_0⟩ := hMe165
           have hv165_0 := hcc165 0 _ rfl
           rw [Nat.add_zero, show ((Kd.slice 3 (Kd.int .i64))).sz = 1 from rfl, Nat.mul_one] at hv165_0
           replace hv165_0 := Option.some.inj (hv165_0.symm.trans hx165_0)
           rw [hv165_0] at ge165_0
           have HL165_0 := Aside0.mk (show Kd.R (Kd.int .i64) 3 _ _ _ _ (rd_L2 t155 x8_2) from ge165_0)
           clear hv165_0 ge165_0
           clear hcc165 hce165
           have HR165_0 := Aside0.mk hi165_0
           have HC165_0 := Aside0.mk hl165_0
           clear hi165_0 hl165_0
           replace p165 := eq_true p165
           replace q165 := eq_true q165
           try go_wp2
           have n0_ := Aside0.mk (Kd.S_drew HO_4.out)
           have n1_ := Aside0.mk (Kd.R_drew HL165_0.out)
           have n2_ := Aside0.mk (Kd.C_drew HR165_0.out)
           have n3_ := Aside0.mk (below_drew1 HB.out)
           clear HO_4
           clear HL165_0
           clear HR165_0
           clear HB
           have HO_4 := n0_
           have HL165_0 := n1_
           have HR165_0 := n2_
           have HB := n3_
           clear n0_ n1_ n2_ n3_
           refine start_ (n := 40) (S := fun w' => True) (ds := []) b0 (by kernel_rfl) rfl rfl trivial (fun hHeld => ?_); refine with_tabW laws_FnTriAll.tab12 laws_FnTriAll.bits12 (fun HT_ HW_ => ?_)
           generalize wr.drew = w71 at HO_4 HL165_0 HR165_0 HB hHeld ⊢
           refine pu 0 (some 56) b1 HT_ rfl rfl ?_
           refine pu 1 (some 57) b2 HT_ rfl rfl ?_
           refine pu 2 (some 58) b3 HT_ rfl rfl ?_
           refine pu 3 (some 59) b4 HT_ rfl rfl ?_
           refine pu 4 (some 60) b5 HT_ rfl rfl ?_
           refine pu 6 (some 62) b6 HT_ rfl rfl ?_
           refine one_ (i := 5) (N := some 61) b7 rfl rfl (one_of HT_.out (by kernel_rfl)) (by decide) (fun K hK => ?_)
           refine goes_ Try.func11 (by kernel_rfl) rfl #[.slice _ (rd_L2 t155 x8_2).length c165_0] (by rfl) rfl rfl (by (try simp only [List.map_toArray, List.map_cons, List.map_nil]); first | done | rfl | (simp only [List.length_drop, List.length_take]; rfl)) ?_
           with_reducible refine (laws_total.calls k2 _ _ (rd_L2 t155 x8_2) t166 _ ?side1 ?side2 A25.out).mono ?_
           (case side1 => repeat (first | exact (by repeat (first | (with_reducible exact HR165_0.out) | (with_reducible refine Kd.C_alloc ?_ _) | (with_reducible refine Kd.C_drewN ?_ _) | (with_reducible refine Kd.C_drew ?_) | exact HR165_0.out)) | (with_reducible refine Kd.C_alloc ?_ _) | (with_reducible refine Kd.C_drewN ?_ _) | (with_reducible refine Kd.C_drew ?_)))
           (case side2 => exact HC165_0.out)
           rintro e w' ⟨rfl, ⟨nd, rfl⟩⟩
           refine ⟨_, rfl, ?_⟩
           refine hK.out _ _ trivial (fun hHeld => ?_)
           clear hK K
           refine norm_ (a' := ?_) ?_ ?_
           rotate_left
           ·show Act.put _ (some 61) _ = _
            simp only [Act.put, List.setIfInBounds_toArray, List.set_cons_zero, List.set_cons_succ, i64_w, i32_w]
            rfl
           refine pu 7 (some 63) b8 HT_ rfl rfl ?_
           refine pu 8 (some 64) b9 HT_ rfl rfl ?_
           refine pu 9 (some 65) b10 HT_ rfl rfl ?_
           refine pn 10 (some 66) b11 HT_ rfl rfl ?_
           refine pn 11 (some 67) b12 HT_ rfl rfl ?_
           refine pn 12 (some 68) b102 HT_ rfl rfl ?_
           refine pn 13 (some 69) b103 HT_ rfl rfl ?_
           refine pn 14 (some 70) b15 HT_ rfl rfl ?_
           refine pn 15 (some 71) b16 HT_ rfl rfl ?_
           refine pn 16 (some 72) b17 HT_ rfl rfl ?_
           refine pu 17 (some 73) b18 HT_ rfl rfl ?_
           refine pu 18 (some 74) b19 HT_ rfl rfl ?_
           refine pn 19 (some 75) b20 HT_ rfl rfl ?_
           refine pn 20 (some 76) b21 HT_ rfl rfl ?_
           refine pn 21 (some 77) b22 HT_ rfl rfl ?_
           refine pn 22 (some 78) b23 HT_ rfl rfl ?_
           refine pn 23 (some 79) b24 HT_ rfl rfl ?_
           refine pn 24 (some 80) b25 HT_ rfl rfl ?_
           refine pn 25 (some 81) b26 HT_ rfl rfl ?_
           refine pu 26 (some 82) b27 HT_ rfl rfl ?_
           refine pu 27 (some 83) b28 HT_ rfl rfl ?_
           refine pn 28 (some 84) b29 HT_ rfl rfl ?_
           refine pn 29 (some 85) b30 HT_ rfl rfl ?_
           refine pn 30 (some 86) b31 HT_ rfl rfl ?_
           refine pn 31 (some 87) b32 HT_ rfl rfl ?_
           refine pn 32 (some 88) b33 HT_ rfl rfl ?_
           refine pn 33 (some 89) b34 HT_ rfl rfl ?_
           refine pn 34 (some 90) b35 HT_ rfl rfl ?_
           refine pn 35 (some 91) b36 HT_ rfl rfl ?_
           refine pn 36 (some 92) b37 HT_ rfl rfl ?_
           refine pn 37 (some 93) b38 HT_ rfl rfl ?_
           refine pn 38 (some 94) b39 HT_ rfl rfl ?_
           refine pu 39 (some 95) b40 HT_ rfl rfl ?_
           refine done_ (done_of HT_.out (by kernel_rfl)) ?_
           try go_wp2
           go_ret
           exact ⟨by first | rfl | (simp [errW_none, errW_some] <;> rfl) | (simp [*, errW_none, errW_some] <;> rfl) | (simp [i64_w]; done) | (simp [*, i64_w]; done) | (simp [Esame.out]; done) | (simp [*, Esame.out]; done), by repeat (first | (with_reducible first | exact HB.out | apply below_alloc | apply pw_below_drewN | apply below_drew1) | exact HB.out)⟩
         ·rw [if_neg c24] at H
          have c24b0 : (((rd_L2 t155 x8_2).length : Int) == 3) = false := beq_eq_false_iff_ne.mpr c24
          have c24b1 : (((rd_L2 t155 x8_2).length : Int) != 3) = true := bne_iff_ne.mpr c24
          obtain rfl := Option.some.inj H
          obtain ⟨Ao72, co72, eo72⟩ := Kd.S_slice HO_4.out
          subst eo72
          have p165 : 0 ≤ (x8_2 : Int) := of_decide_eq_true (by first | (with_reducible assumption) | assumption)
          have q165 : x8_2 < (t155.length : Int) := of_decide_eq_true (by first | (with_reducible assumption) | assumption)
          obtain ⟨ad165, A165_0, c165_0, e165, hx165_0, hl165_0, hi165_0⟩ := at_L2 (Kd.S_reads' HO_4.out).2.2 x8_2 p165 q165
          cases e165
          obtain ⟨ce165, hce165, hMe165, hcc165⟩ := Kd.S_get HO_4.out [] x8_2 p165 (by first | exact q165 | exact of_decide_eq_true (by first | (with_reducible assumption) | assumption) | (have e_ := (Kd.S_reads' HO_4.out).1; omega))
          obtain ⟨ve165_0, rfl, ge165_0⟩ := hMe165
          have hv165_0 := hcc165 0 _ rfl
          rw [Nat.add_zero, show ((Kd.slice 3 (Kd.int .i64))).sz = 1 from rfl, Nat.mul_one] at hv165_0
          replace hv165_0 := Option.some.inj (hv165_0.symm.trans hx165_0)
          rw [hv165_0] at ge165_0
          have HL165_0 := Aside0.mk (show Kd.R (Kd.int .i64) 3 _ _ _ _ (rd_L2 t155 x8_2) from ge165_0)
          clear hv165_0 ge165_0
          clear hcc165 hce165
          have HR165_0 := Aside0.mk hi165_0
          have HC165_0 := Aside0.mk hl165_0
          clear hi165_0 hl165_0
          replace p165 := eq_true p165
          replace q165 := eq_true q165
          try go_wp2
          have n0_ := Aside0.mk (Kd.S_drew HO_4.out)
          have n1_ := Aside0.mk (Kd.R_drew HL165_0.out)
          have n2_ := Aside0.mk (Kd.C_drew HR165_0.out)
          have n3_ := Aside0.mk (below_drew1 HB.out)
          clear HO_4
          clear HL165_0
          clear HR165_0
          clear HB
          have HO_4 := n0_
          have HL165_0 := n1_
          have HR165_0 := n2_
          have HB := n3_
          clear n0_ n1_ n2_ n3_
          refine start_ (n := 40) (S := fun w' => True) (ds := []) b0 (by kernel_rfl) rfl rfl trivial (fun hHeld => ?_); refine with_tabW laws_FnTriAll.tab12 laws_FnTriAll.bits12 (fun HT_ HW_ => ?_)
          generalize wr.drew = w73 at HO_4 HL165_0 HR165_0 HB hHeld ⊢
          refine pu 0 (some 56) b1 HT_ rfl rfl ?_
          refine pu 1 (some 57) b2 HT_ rfl rfl ?_
          refine pu 2 (some 58) b3 HT_ rfl rfl ?_
          refine pu 3 (some 59) b4 HT_ rfl rfl ?_
          refine pn 4 (some 60) b5 HT_ rfl rfl ?_
          refine pn 5 (some 61) b104 HT_ rfl rfl ?_
          refine pn 6 (some 62) b7 HT_ rfl rfl ?_
          refine pn 7 (some 63) b8 HT_ rfl rfl ?_
          refine pu 8 (some 64) b9 HT_ rfl rfl ?_
          refine pu 9 (some 65) b10 HT_ rfl rfl ?_
          refine pn 10 (some 66) b11 HT_ rfl rfl ?_
          refine pn 11 (some 67) b12 HT_ rfl rfl ?_
          refine pn 12 (some 68) b102 HT_ rfl rfl ?_
          refine pn 13 (some 69) b103 HT_ rfl rfl ?_
          refine pn 14 (some 70) b15 HT_ rfl rfl ?_
          refine pn 15 (some 71) b16 HT_ rfl rfl ?_
          refine pn 16 (some 72) b17 HT_ rfl rfl ?_
          refine pu 17 (some 73) b18 HT_ rfl rfl ?_
          refine pu 18 (some 74) b19 HT_ rfl rfl ?_
          refine pn 19 (some 75) b20 HT_ rfl rfl ?_
          refine pn 20 (some 76) b21 HT_ rfl rfl ?_
          refine pn 21 (some 77) b22 HT_ rfl rfl ?_
          refine pn 22 (some 78) b23 HT_ rfl rfl ?_
          refine pn 23 (some 79) b24 HT_ rfl rfl ?_
          refine pn 24 (some 80) b25 HT_ rfl rfl ?_
          refine pn 25 (some 81) b26 HT_ rfl rfl ?_
          refine pu 26 (some 82) b27 HT_ rfl rfl ?_
          refine pu 27 (some 83) b28 HT_ rfl rfl ?_
          refine pn 28 (some 84) b29 HT_ rfl rfl ?_
          refine pn 29 (some 85) b30 HT_ rfl rfl ?_
          refine pn 30 (some 86) b31 HT_ rfl rfl ?_
          refine pn 31 (some 87) b32 HT_ rfl rfl ?_
          refine pn 32 (some 88) b33 HT_ rfl rfl ?_
          refine pn 33 (some 89) b34 HT_ rfl rfl ?_
          refine pn 34 (some 90) b35 HT_ rfl rfl ?_
          refine pn 35 (some 91) b36 HT_ rfl rfl ?_
          refine pn 36 (some 92) b37 HT_ rfl rfl ?_
          refine pn 37 (some 93) b38 HT_ rfl rfl ?_
          refine pn 38 (some 94) b39 HT_ rfl rfl ?_
          refine pu 39 (some 95) b40 HT_ rfl rfl ?_
          refine done_ (done_of HT_.out (by kernel_rfl)) ?_
          try go_wp2
          go_ret
          exact ⟨by first | rfl | (simp [errW_none, errW_some] <;> rfl) | (simp [*, errW_none, errW_some] <;> rfl) | (simp [i64_w]; done) | (simp [*, i64_w]; done) | (simp [Esame.out]; done) | (simp [*, Esame.out]; done), by repeat (first | (with_reducible first | exact HB.out | apply below_alloc | apply pw_below_drewN | apply below_drew1) | exact HB.out)⟩
        ·rw [if_neg c23] at H
         exact absurd H (by simp)
       ·rw [if_neg c22] at H
        have c22b0 : decide (x8_2 < (t155.length : Int)) = false := decide_eq_false c22
        clear c22
        obtain rfl := Option.some.inj H
        obtain ⟨Ao74, co74, eo74⟩ := Kd.S_slice HO_4.out
        subst eo74
        go_wp2
        go_ret
        exact ⟨by first | rfl | (simp [errW_none, errW_some] <;> rfl) | (simp [*, errW_none, errW_some] <;> rfl) | (simp [i64_w]; done) | (simp [*, i64_w]; done) | (simp [Esame.out]; done) | (simp [*, Esame.out]; done), by repeat (first | (with_reducible first | exact HB.out | apply below_alloc | apply pw_below_drewN | apply below_drew1) | exact HB.out)⟩

/-- THE ONE PURE STATEMENT of laws_FnTriAll: yours. -/
def laws_FnTriAll.Pure : Prop := ∀ (l0 : List Int), l0.length ≤ maxLen → l0.length * 1 ≤ 140737488351232 → (∀ x ∈ l0, (Lit.int .u8 x).wf = true) → ∃ k, laws_FnTriAll.f k l0 = some true
theorem laws_FnTriAll.walk (P : laws_FnTriAll.Pure) (a0 : Option Addr) (len0 cap0 : Nat) (z0 : List Int) (w : World) (w0 : (a0 = none ∧ len0 = 0 ∧ cap0 = 0 ∧ z0 = []) ∨ ∃ x, a0 = some x ∧ len0 ≤ cap0 ∧ cap0 ≤ maxLen ∧ z0.length = cap0 ∧ (∀ i, i < z0.length → w.cell? (x.add i) = some (.int .u8 (z0.getD i 0))) ∧ ∀ n ∈ z0, (Lit.int .u8 n).wf = true) (y0 : len0 * 1 ≤ 140737488351232) :
 Calls Try.prog 3 #[.slice a0 len0 cap0] w fun e w' => e = .returned (.bool true) ∧ Below w.heap.size w w' := by
 obtain ⟨l0, rfl, hr0, hm0, hw0, hc0⟩ := ReadsInt.ofRowC w0
 obtain ⟨k, h⟩ := P l0 hm0 y0 hw0
 refine (laws_FnTriAll.calls k _ _ l0 true w (Kd.C_of_reads (d := (0 : Int)) (h1 := fun _ => rfl) hr0) hc0 h).mono ?_
 rintro e w' ⟨rfl, hd⟩
 exact ⟨rfl, hd⟩

end Go.Proofs.Ytagdncgnkkibhaa.QFnTriAll
