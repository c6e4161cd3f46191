-- Laid by a program of this session (wip/pp.py) over the seat's translation, with its own texts for some functions.
import Derived.Test.YtghfhcmjnpjgdaaDoorX0
import Derived.Test.YtghfhcmjnpjgdaaDoorX1
import Derived.Test.YtghfhcmjnpjgdaaDoorX2
namespace Go.Proofs.YtghfhcmjnpjgdaaDoor.X
open Go.RowKit Go.Proofs.YtghfhcmjnpjgdaaDoorW.PrintWords Go.Proofs.YtghfhcmjnpjgdaaDoorW.PrintLast Go.Proofs.YtghfhcmjnpjgdaaDoorW.PrintMore
attribute [local go_sem] max2_int min2_int max_two min_two max_three min_three max_four min_four   -- for this text's walks alone
set_option linter.unusedVariables false
set_option linter.unusedSimpArgs false

/-! ### laws_FnExactTestsOfBox: function 3 -/
def laws_FnExactTestsOfBox.f (k : Nat) (a0 : ByteArray) (a1 : Int) : Option (Bool) := if (a0.size : Int) > 1048576 then (some true) else ((spec_TestsOfBox.f k a0 a1).bind fun bt112 => ((impl_TestsOfBox.f k a0 a1).bind fun bt114 => (if bt114.1 = bt112.1 then (if (bt114.2 != bt112.2) = true then (some false) else (some true)) else (some false))))
theorem laws_FnExactTestsOfBox.mono : ∀ a0 a1 k, LeO (laws_FnExactTestsOfBox.f k a0 a1) (laws_FnExactTestsOfBox.f (k + 1) a0 a1) := by
  intro a0 a1 k
  unfold laws_FnExactTestsOfBox.f
  repeat' first
      | (with_reducible exact impl_TestsOfBox.mono _ _ _)
      | (with_reducible exact spec_TestsOfBox.mono _ _ _)
      | (with_reducible exact LeO.refl _)
      | (with_reducible exact LeO.none _)
      | (with_reducible refine LeO.ite ?_ ?_)
      | (with_reducible refine LeO.bind ?_ (fun _ => ?_))
      | exact impl_TestsOfBox.mono _ _ _
      | exact spec_TestsOfBox.mono _ _ _
      | exact LeO.none _
      | refine LeO.ite ?_ ?_
      | refine LeO.bind ?_ (fun _ => ?_)
set_option maxHeartbeats 8000000 in
set_option maxRecDepth 100000 in
theorem laws_FnExactTestsOfBox.calls (k : Nat) (a0 : ByteArray) (a1 : Int) (r : Bool) (w : World) (h : laws_FnExactTestsOfBox.f k a0 a1 = some r) :
    Calls Tryd.prog 3 #[.string a0, .int .i64 a1] w fun e w' => e = .returned (.bool r) ∧ Below w.heap.size w w' := by
  have HB := Aside0.mk (Below.refl w.heap.size w)
  have H : (if (a0.size : Int) > 1048576 then (some true) else ((spec_TestsOfBox.f k a0 a1).bind fun bt112 => ((impl_TestsOfBox.f k a0 a1).bind fun bt114 => (if bt114.1 = bt112.1 then (if (bt114.2 != bt112.2) = true then (some false) else (some true)) else (some false))))) = some r := h
  clear h
  by_cases c3 : (a0.size : Int) > 1048576
  · rw [if_pos c3] at H
    have c3b0 : decide (1048576 < (a0.size : Int)) = true := decide_eq_true c3
    have c3b1 : decide (1048576 < a0.size) = true := decide_eq_true (by omega)
    clear c3
    obtain rfl := Option.some.inj H
    go_enter Tryd.func3, Tryd.ntmps3
    go_wp2
    go_ret
    exact ⟨by first | rfl | (simp [errW_none, errW_some] <;> rfl) | (simp [*, errW_none, errW_some] <;> rfl), by repeat (first | (with_reducible first | exact HB.out | apply below_alloc | apply pw_below_drewN | apply below_drew1) | exact HB.out)⟩
  · rw [if_neg c3] at H
    have c3b0 : decide (1048576 < (a0.size : Int)) = false := decide_eq_false c3
    have c3b1 : decide (1048576 < a0.size) = false := decide_eq_false (by omega)
    clear c3
    replace H := Option.bind_eq_some_iff.mp H
    obtain ⟨⟨t112, t113⟩, A40, H⟩ := H
    replace H : ((impl_TestsOfBox.f k a0 a1).bind fun bt114 => (if bt114.1 = t112 then (if (bt114.2 != t113) = true then (some false) else (some true)) else (some false))) = some r := H
    have A4 := Aside0.mk A40
    clear A40
    replace H := Option.bind_eq_some_iff.mp H
    obtain ⟨⟨t114, t115⟩, A50, H⟩ := H
    replace H : (if t114 = t112 then (if (t115 != t113) = true then (some false) else (some true)) else (some false)) = some r := H
    have A5 := Aside0.mk A50
    clear A50
    by_cases c6 : t114 = t112
    · rw [if_pos c6] at H
      have c6b0 : (t114 == t112) = true := beq_iff_eq.mpr c6
      have c6b1 : (t114 != t112) = false := bne_eq_false_iff_eq.mpr c6
      clear c6
      by_cases c7 : (t115 != t113) = true
      · rw [if_pos c7] at H
        have c7b0 : (t115 != t113) = true := c7
        (try (have c7b1 : decide (t115 = t113) = false := by simpa using c7))
        (try (have c7b2 : (t115 == t113) = false := by simpa using c7))
        (try (have c7b3 : ¬ (t115 = t113) := by simpa using c7))
        clear c7
        obtain rfl := Option.some.inj H
        go_enter Tryd.func3, Tryd.ntmps3
        go_wp2_with (first | ((with_reducible refine gate_callee (f := 12) rfl ?_); refine goesL_ (some 15) rfl rfl Tryd.func12 (by kernel_rfl) rfl #[.string a0, .int .i64 a1] rfl (by (try simp only [List.map_toArray, List.map_cons, List.map_nil]); first | done | rfl | (simp only [List.length_drop, List.length_take]; rfl)) ?_; (with_reducible refine (spec_TestsOfBox.calls k a0 a1 t112 t113 _ A4.out).mono ?_); rintro e w' ⟨rfl, ⟨nd, rfl⟩⟩; refine ⟨_, rfl, ?_⟩) | ((with_reducible refine gate_callee (f := 13) rfl ?_); refine goesL_ (some 21) rfl rfl Tryd.func13 (by kernel_rfl) rfl #[.string a0, .int .i64 a1] rfl (by (try simp only [List.map_toArray, List.map_cons, List.map_nil]); first | done | rfl | (simp only [List.length_drop, List.length_take]; rfl)) ?_; (with_reducible refine (impl_TestsOfBox.calls k a0 a1 t114 t115 _ A5.out).mono ?_); rintro e w8 ⟨rfl, hb⟩; refine ⟨_, rfl, ?_⟩; have n0_ := Aside0.mk (below_step (by repeat (first | (with_reducible first | exact HB.out | apply below_alloc | apply pw_below_drewN | apply below_drew1) | exact HB.out)) hb); clear HB; have HB := n0_; clear n0_; (try clear hb); (try clear hb2); (try clear hk); (try clear hi)))
        go_ret
        exact ⟨by first | rfl | (simp [errW_none, errW_some] <;> rfl) | (simp [*, errW_none, errW_some] <;> rfl), by repeat (first | (with_reducible first | exact HB.out | apply below_alloc | apply pw_below_drewN | apply below_drew1) | exact HB.out)⟩
      · rw [if_neg c7] at H
        have c7b0 : (t115 != t113) = false := by simpa using c7
        (try (have c7b1 : decide (t115 = t113) = true := by simpa using c7))
        (try (have c7b2 : (t115 == t113) = true := by simpa using c7))
        clear c7
        obtain rfl := Option.some.inj H
        go_enter Tryd.func3, Tryd.ntmps3
        go_wp2_with (first | ((with_reducible refine gate_callee (f := 12) rfl ?_); refine goesL_ (some 15) rfl rfl Tryd.func12 (by kernel_rfl) rfl #[.string a0, .int .i64 a1] rfl (by (try simp only [List.map_toArray, List.map_cons, List.map_nil]); first | done | rfl | (simp only [List.length_drop, List.length_take]; rfl)) ?_; (with_reducible refine (spec_TestsOfBox.calls k a0 a1 t112 t113 _ A4.out).mono ?_); rintro e w' ⟨rfl, ⟨nd, rfl⟩⟩; refine ⟨_, rfl, ?_⟩) | ((with_reducible refine gate_callee (f := 13) rfl ?_); refine goesL_ (some 21) rfl rfl Tryd.func13 (by kernel_rfl) rfl #[.string a0, .int .i64 a1] rfl (by (try simp only [List.map_toArray, List.map_cons, List.map_nil]); first | done | rfl | (simp only [List.length_drop, List.length_take]; rfl)) ?_; (with_reducible refine (impl_TestsOfBox.calls k a0 a1 t114 t115 _ A5.out).mono ?_); rintro e w9 ⟨rfl, hb⟩; refine ⟨_, rfl, ?_⟩; have n0_ := Aside0.mk (below_step (by repeat (first | (with_reducible first | exact HB.out | apply below_alloc | apply pw_below_drewN | apply below_drew1) | exact HB.out)) hb); clear HB; have HB := n0_; clear n0_; (try clear hb); (try clear hb2); (try clear hk); (try clear hi)))
        go_ret
        exact ⟨by first | rfl | (simp [errW_none, errW_some] <;> rfl) | (simp [*, errW_none, errW_some] <;> rfl), by repeat (first | (with_reducible first | exact HB.out | apply below_alloc | apply pw_below_drewN | apply below_drew1) | exact HB.out)⟩
    · rw [if_neg c6] at H
      have c6b0 : (t114 == t112) = false := beq_eq_false_iff_ne.mpr c6
      have c6b1 : (t114 != t112) = true := bne_iff_ne.mpr c6
      obtain rfl := Option.some.inj H
      go_enter Tryd.func3, Tryd.ntmps3
      go_wp2_with (first | ((with_reducible refine gate_callee (f := 12) rfl ?_); refine goesL_ (some 15) rfl rfl Tryd.func12 (by kernel_rfl) rfl #[.string a0, .int .i64 a1] rfl (by (try simp only [List.map_toArray, List.map_cons, List.map_nil]); first | done | rfl | (simp only [List.length_drop, List.length_take]; rfl)) ?_; (with_reducible refine (spec_TestsOfBox.calls k a0 a1 t112 t113 _ A4.out).mono ?_); rintro e w' ⟨rfl, ⟨nd, rfl⟩⟩; refine ⟨_, rfl, ?_⟩) | ((with_reducible refine gate_callee (f := 13) rfl ?_); refine goesL_ (some 21) rfl rfl Tryd.func13 (by kernel_rfl) rfl #[.string a0, .int .i64 a1] rfl (by (try simp only [List.map_toArray, List.map_cons, List.map_nil]); first | done | rfl | (simp only [List.length_drop, List.length_take]; rfl)) ?_; (with_reducible refine (impl_TestsOfBox.calls k a0 a1 t114 t115 _ A5.out).mono ?_); rintro e w10 ⟨rfl, hb⟩; refine ⟨_, rfl, ?_⟩; have n0_ := Aside0.mk (below_step (by repeat (first | (with_reducible first | exact HB.out | apply below_alloc | apply pw_below_drewN | apply below_drew1) | exact HB.out)) hb); clear HB; have HB := n0_; clear n0_; (try clear hb); (try clear hb2); (try clear hk); (try clear hi)))
      go_ret
      exact ⟨by first | rfl | (simp [errW_none, errW_some] <;> rfl) | (simp [*, errW_none, errW_some] <;> rfl), by repeat (first | (with_reducible first | exact HB.out | apply below_alloc | apply pw_below_drewN | apply below_drew1) | exact HB.out)⟩

/-- THE ONE PURE STATEMENT of laws_FnExactTestsOfBox: yours. -/
def laws_FnExactTestsOfBox.Pure : Prop := ∀ (a0 : ByteArray) (a1 : Int), a0.size ≤ 140737488351232 → (Lit.int .i64 a1).wf = true → ∃ k, laws_FnExactTestsOfBox.f k a0 a1 = some true
theorem laws_FnExactTestsOfBox.walk (P : laws_FnExactTestsOfBox.Pure) (a0 : ByteArray) (a1 : Int) (w : World) (w0 : a0.size ≤ 140737488351232) (w1 : (Lit.int .i64 a1).wf = true) :
    Calls Tryd.prog 3 #[.string a0, .int .i64 a1] w fun e w' => e = .returned (.bool true) ∧ Below w.heap.size w w' := by
  obtain ⟨k, h⟩ := P a0 a1 w0 w1
  refine (laws_FnExactTestsOfBox.calls k a0 a1 true w h).mono ?_
  rintro e w' ⟨rfl, hd⟩
  exact ⟨rfl, hd⟩

/-! ### spec_BestGroupOf: function 14 -/
def spec_BestGroupOf.l0 : Nat → ByteArray → Int → Int → Int → Option (Int × Int × Bool)
  | 0, _, _, _, _ => none
  | k + 1, x0, x5, x6, x7 => if x7 ≤ (x0.size : Int) then ((spec_bxTests.f k x0 x7).bind fun t117 => (if x5 = 0 then (spec_BestGroupOf.l0 k x0 x7 t117 (wrap64 (x7 + 1))) else (if t117 < x6 then (spec_BestGroupOf.l0 k x0 x7 t117 (wrap64 (x7 + 1))) else (spec_BestGroupOf.l0 k x0 x5 x6 (wrap64 (x7 + 1)))))) else (some (x5, x6, true))
def spec_BestGroupOf.f (k : Nat) (a0 : ByteArray) : Option (Int × Int × Bool) := (spec_bxBox.f k a0).bind fun t116 => (if t116 = true then (spec_BestGroupOf.l0 k a0 0 0 1) else (some (0, 0, false)))
theorem spec_BestGroupOf.mono_l : ∀ k, (∀ y0 y1 y2 y3, LeO (spec_BestGroupOf.l0 k y0 y1 y2 y3) (spec_BestGroupOf.l0 (k + 1) y0 y1 y2 y3))
  | 0 => fun _ _ _ _ r h => by simp [spec_BestGroupOf.l0] at h
  | k + 1 => by
    have ih0 := spec_BestGroupOf.mono_l k
    · intro y0 y1 y2 y3
      unfold spec_BestGroupOf.l0
      repeat' first
      | (with_reducible exact ih0 _ _ _ _)
      | (with_reducible exact spec_bxBox.mono _ _)
      | (with_reducible exact spec_bxTests.mono _ _ _)
      | (with_reducible exact LeO.refl _)
      | (with_reducible exact LeO.none _)
      | (with_reducible refine LeO.ite ?_ ?_)
      | (with_reducible refine LeO.bind ?_ (fun _ => ?_))
      | exact ih0 _ _ _ _
      | exact spec_bxBox.mono _ _
      | exact spec_bxTests.mono _ _ _
      | exact LeO.none _
      | refine LeO.ite ?_ ?_
      | refine LeO.bind ?_ (fun _ => ?_)
theorem spec_BestGroupOf.mono : ∀ a0 k, LeO (spec_BestGroupOf.f k a0) (spec_BestGroupOf.f (k + 1) a0) := by
  intro a0 k
  have ih0 := spec_BestGroupOf.mono_l k
  unfold spec_BestGroupOf.f
  repeat' first
      | (with_reducible exact ih0 _ _ _ _)
      | (with_reducible exact spec_bxBox.mono _ _)
      | (with_reducible exact spec_bxTests.mono _ _ _)
      | (with_reducible exact LeO.refl _)
      | (with_reducible exact LeO.none _)
      | (with_reducible refine LeO.ite ?_ ?_)
      | (with_reducible refine LeO.bind ?_ (fun _ => ?_))
      | exact ih0 _ _ _ _
      | exact spec_bxBox.mono _ _
      | exact spec_bxTests.mono _ _ _
      | exact LeO.none _
      | refine LeO.ite ?_ ?_
      | refine LeO.bind ?_ (fun _ => ?_)
set_option maxHeartbeats 8000000 in
set_option maxRecDepth 100000 in
theorem spec_BestGroupOf.calls (k : Nat) (a0 : ByteArray) (r1 : Int) (r2 : Int) (r3 : Bool) (w : World) (h : spec_BestGroupOf.f k a0 = some (r1, r2, r3)) :
    Calls Tryd.prog 14 #[.string a0] w fun e w' => e = .returned (.tuple #[.int .i64 r1, .int .i64 r2, .bool r3]) ∧ Drawn0 w w' := by
  have H : ((spec_bxBox.f k a0).bind fun t116 => (if t116 = true then (spec_BestGroupOf.l0 k a0 0 0 1) else (some (0, 0, false)))) = some (r1, r2, r3) := h
  clear h
  replace H := Option.bind_eq_some_iff.mp H
  obtain ⟨t116, A20, H⟩ := H
  replace H : (if t116 = true then (spec_BestGroupOf.l0 k a0 0 0 1) else (some (0, 0, false))) = some (r1, r2, r3) := H
  have A2 := Aside0.mk A20
  clear A20
  by_cases c3 : t116 = true
  · subst c3
    have H1 : (spec_BestGroupOf.l0 k a0 0 0 1) = some (r1, r2, r3) := by rw [if_pos rfl] at H; exact H
    clear H
    have H := H1
    clear H1
    have H' := Aside0.mk H
    clear H
    go_enter Tryd.func14, Tryd.ntmps14
    go_wp2_with (first | ((with_reducible refine gate_callee (f := 38) rfl ?_); refine goesL_ (some 10) rfl rfl Tryd.func38 (by kernel_rfl) rfl #[.string a0] rfl (by (try simp only [List.map_toArray, List.map_cons, List.map_nil]); first | done | rfl | (simp only [List.length_drop, List.length_take]; rfl)) ?_; (with_reducible refine (spec_bxBox.calls k a0 true _ A2.out).mono ?_); rintro e w' ⟨rfl, ⟨nd, rfl⟩⟩; refine ⟨_, rfl, ?_⟩))
    go_loopg [5, 6, 7] k (fun kq v5 v6 v7 w' => ∃ (x5_1 : Int) (x6_1 : Int) (x7_1 : Int), v5 = .int .i64 x5_1 ∧ v6 = .int .i64 x6_1 ∧ v7 = .int .i64 x7_1 ∧ Aside0 (spec_BestGroupOf.l0 kq a0 x5_1 x6_1 x7_1 = some (r1, r2, r3)) ∧ Aside0 (kq ≤ k) ∧ Drawn0 w w')
    case atStart => exact ⟨(0), (0), (1), (by first | rfl | (simp; done) | (simp [*]; done)), (by first | rfl | (simp; done) | (simp [*]; done)), (by first | rfl | (simp; done) | (simp [*]; done)), H', ⟨Nat.le_refl _⟩, by repeat (first | exact Drawn0.refl _ | apply Drawn0.step)⟩
    case round =>
      clear H'
      try clear c1
      try clear p2
      try clear c3
      obtain ⟨x5_1, x6_1, x7_1, rfl, rfl, rfl, HA, HK1, ⟨m1, rfl⟩⟩ := hrel
      cases gk with
      | zero => exact absurd HA.out (by simp [spec_BestGroupOf.l0])
      | succ k1 =>
        have H := HA.out
        clear HA
        simp only [spec_BestGroupOf.l0] at H
        by_cases c4 : x7_1 ≤ (a0.size : Int)
        · rw [if_pos c4] at H
          have c4b0 : decide (x7_1 ≤ (a0.size : Int)) = true := decide_eq_true c4
          clear c4
          replace H := Option.bind_eq_some_iff.mp H
          obtain ⟨t117, A50, H⟩ := H
          replace H : (if x5_1 = 0 then (spec_BestGroupOf.l0 k1 a0 x7_1 t117 (wrap64 (x7_1 + 1))) else (if t117 < x6_1 then (spec_BestGroupOf.l0 k1 a0 x7_1 t117 (wrap64 (x7_1 + 1))) else (spec_BestGroupOf.l0 k1 a0 x5_1 x6_1 (wrap64 (x7_1 + 1))))) = some (r1, r2, r3) := H
          have A5 := Aside0.mk A50
          clear A50
          by_cases c6 : x5_1 = 0
          · rw [if_pos c6] at H
            have c6b0 : (x5_1 == 0) = true := beq_iff_eq.mpr c6
            have c6b1 : (x5_1 != 0) = false := bne_eq_false_iff_eq.mpr c6
            clear c6
            have H' := Aside0.mk H
            clear H
            go_wp2_with (first | ((with_reducible refine gate_callee (f := 40) rfl ?_); refine goesL_ (some 20) rfl rfl Tryd.func40 (by kernel_rfl) rfl #[.string a0, .int .i64 x7_1] rfl (by (try simp only [List.map_toArray, List.map_cons, List.map_nil]); first | done | rfl | (simp only [List.length_drop, List.length_take]; rfl)) ?_; (with_reducible refine (spec_bxTests.calls k1 a0 x7_1 t117 _ A5.out).mono ?_); rintro e w' ⟨rfl, ⟨nd, rfl⟩⟩; refine ⟨_, rfl, ?_⟩))
            go_roundg k1
            case measure => have := HK1.out; omega
            case rel => exact ⟨(x7_1), (t117), (wrap64 (x7_1 + 1)), (by first | rfl | (simp; done) | (simp [*]; done)), (by first | rfl | (simp; done) | (simp [*]; done)), (by first | rfl | (simp; done) | (simp [*]; done)), H', ⟨by have := HK1.out; omega⟩, by repeat (first | exact Drawn0.refl _ | apply Drawn0.step)⟩
          · rw [if_neg c6] at H
            have c6b0 : (x5_1 == 0) = false := beq_eq_false_iff_ne.mpr c6
            have c6b1 : (x5_1 != 0) = true := bne_iff_ne.mpr c6
            by_cases c7 : t117 < x6_1
            · rw [if_pos c7] at H
              have c7b0 : decide (t117 < x6_1) = true := decide_eq_true c7
              clear c7
              have H' := Aside0.mk H
              clear H
              go_wp2_with (first | ((with_reducible refine gate_callee (f := 40) rfl ?_); refine goesL_ (some 20) rfl rfl Tryd.func40 (by kernel_rfl) rfl #[.string a0, .int .i64 x7_1] rfl (by (try simp only [List.map_toArray, List.map_cons, List.map_nil]); first | done | rfl | (simp only [List.length_drop, List.length_take]; rfl)) ?_; (with_reducible refine (spec_bxTests.calls k1 a0 x7_1 t117 _ A5.out).mono ?_); rintro e w' ⟨rfl, ⟨nd, rfl⟩⟩; refine ⟨_, rfl, ?_⟩))
              go_roundg k1
              case measure => have := HK1.out; omega
              case rel => exact ⟨(x7_1), (t117), (wrap64 (x7_1 + 1)), (by first | rfl | (simp; done) | (simp [*]; done)), (by first | rfl | (simp; done) | (simp [*]; done)), (by first | rfl | (simp; done) | (simp [*]; done)), H', ⟨by have := HK1.out; omega⟩, by repeat (first | exact Drawn0.refl _ | apply Drawn0.step)⟩
            · rw [if_neg c7] at H
              have c7b0 : decide (t117 < x6_1) = false := decide_eq_false c7
              clear c7
              have H' := Aside0.mk H
              clear H
              go_wp2_with (first | ((with_reducible refine gate_callee (f := 40) rfl ?_); refine goesL_ (some 20) rfl rfl Tryd.func40 (by kernel_rfl) rfl #[.string a0, .int .i64 x7_1] rfl (by (try simp only [List.map_toArray, List.map_cons, List.map_nil]); first | done | rfl | (simp only [List.length_drop, List.length_take]; rfl)) ?_; (with_reducible refine (spec_bxTests.calls k1 a0 x7_1 t117 _ A5.out).mono ?_); rintro e w' ⟨rfl, ⟨nd, rfl⟩⟩; refine ⟨_, rfl, ?_⟩))
              go_roundg k1
              case measure => have := HK1.out; omega
              case rel => exact ⟨(x5_1), (x6_1), (wrap64 (x7_1 + 1)), (by first | rfl | (simp; done) | (simp [*]; done)), (by first | rfl | (simp; done) | (simp [*]; done)), (by first | rfl | (simp; done) | (simp [*]; done)), H', ⟨by have := HK1.out; omega⟩, by repeat (first | exact Drawn0.refl _ | apply Drawn0.step)⟩
        · rw [if_neg c4] at H
          have c4b0 : decide (x7_1 ≤ (a0.size : Int)) = false := decide_eq_false c4
          clear c4
          simp only [Option.some.injEq, Prod.mk.injEq] at H
          obtain ⟨rfl, rfl, rfl⟩ := H
          go_wp2
          go_ret3
          exact ⟨by first | rfl | (simp; done) | (simp [*]; done), by repeat (first | exact Drawn0.refl _ | apply Drawn0.step)⟩
  · replace c3 := Bool.eq_false_iff.mpr c3
    subst c3
    have H1 : (some (0, 0, false)) = some (r1, r2, r3) := by rw [if_neg (show ¬ (false = true) by decide)] at H; exact H
    clear H
    have H := H1
    clear H1
    simp only [Option.some.injEq, Prod.mk.injEq] at H
    obtain ⟨rfl, rfl, rfl⟩ := H
    go_enter Tryd.func14, Tryd.ntmps14
    go_wp2_with (first | ((with_reducible refine gate_callee (f := 38) rfl ?_); refine goesL_ (some 10) rfl rfl Tryd.func38 (by kernel_rfl) rfl #[.string a0] rfl (by (try simp only [List.map_toArray, List.map_cons, List.map_nil]); first | done | rfl | (simp only [List.length_drop, List.length_take]; rfl)) ?_; (with_reducible refine (spec_bxBox.calls k a0 false _ A2.out).mono ?_); rintro e w' ⟨rfl, ⟨nd, rfl⟩⟩; refine ⟨_, rfl, ?_⟩))
    go_ret3
    exact ⟨by first | rfl | (simp; done) | (simp [*]; done), by repeat (first | exact Drawn0.refl _ | apply Drawn0.step)⟩

/-! ### impl_BestGroupOf: function 15 -/
def lstLoop (tf : Int → Int) : Nat → Int → Int → Int → Int × Int
  | 0, _, b, f => (b, f)
  | n + 1, g, b, f => if b = 0 ∨ tf g < f then lstLoop tf n (g + 1) g (tf g) else lstLoop tf n (g + 1) b f
set_option maxHeartbeats 2000000 in
theorem least_any (g : Nat) (lb : Array Value) (eg : ∀ args w, (callFunc g args).run Tryd.prog w = .ok (.enter g args) w) (tf : Int → Int) (most : Nat) (hmost : most ≤ 1000000) (w : World)
    (hc : ∀ (W : World) (i : Int), 1 ≤ i → i ≤ most → Below w.heap.size w W → Calls Tryd.prog g (#[.int .i64 i] ++ lb) W fun e w' => e = .returned (.int .i64 (tf i)) ∧ Below w.heap.size w w') :
    Calls Tryd.prog 44 #[.int .i64 (most : Int), .func (.func g) #[] lb] w fun e w' => e = .returned (.tuple #[.int .i64 (lstLoop tf most 1 0 0).1, .int .i64 (lstLoop tf most 1 0 0).2]) ∧ Below w.heap.size w w' := by
  obtain ⟨R, hR⟩ : ∃ R, R = lstLoop tf most 1 0 0 := ⟨_, rfl⟩
  rw [← hR]
  have HC := Aside0.mk hc
  have HR := Aside0.mk hR.symm
  clear hc hR
  go_enter Tryd.func44, Tryd.ntmps44
  go_wp2
  go_loopg [6, 7, 8] most (fun gg v6 v7 v8 wr => ∃ (i : Nat) (b f : Int), i ≤ most ∧ most - i ≤ gg ∧ v6 = .int .i64 b ∧ v7 = .int .i64 f ∧ v8 = .int .i64 ((i : Int) + 1) ∧ Aside0 (lstLoop tf (most - i) ((i : Int) + 1) b f = R) ∧ Aside0 (Below w.heap.size w wr))
  case atStart => exact ⟨0, 0, 0, Nat.zero_le _, by omega, rfl, rfl, rfl, HR, ⟨Below.refl _ _⟩⟩
  case round =>
    obtain ⟨i, b, f, hi, hg, rfl, rfl, rfl, HL, HB⟩ := hrel
    by_cases hlt : i < most
    · have hle : (i : Int) + 1 ≤ (most : Int) := by omega
      have hw : wrap64 ((i : Int) + 1 + 1) = ((i + 1 : Nat) : Int) + 1 := by unfold wrap64; omega
      have hcall := HC.out wr ((i : Int) + 1) (by omega) hle HB.out
      have hstep : lstLoop tf (most - i) ((i : Int) + 1) b f = if b = 0 ∨ tf ((i : Int) + 1) < f then lstLoop tf (most - (i + 1)) (((i + 1 : Nat) : Int) + 1) ((i : Int) + 1) (tf ((i : Int) + 1)) else lstLoop tf (most - (i + 1)) (((i + 1 : Nat) : Int) + 1) b f := by
        obtain ⟨n, hn⟩ : ∃ n, most - i = n + 1 := ⟨most - i - 1, by omega⟩
        rw [hn, show most - (i + 1) = n by omega]
        simp only [lstLoop]
        rw [show ((i + 1 : Nat) : Int) + 1 = (i : Int) + 1 + 1 by omega]
      have HS := Aside0.mk hstep
      obtain ⟨n, hn⟩ : ∃ n : Int, n = tf ((i : Int) + 1) := ⟨_, rfl⟩
      rw [← hn] at hcall HS
      clear hstep
      have HN := Aside0.mk hn
      have HW := Aside0.mk hw
      clear hn hw
      by_cases c1 : b = 0
      · have c1b : (b == 0) = true := beq_iff_eq.mpr c1
        have HB1 := Aside0.mk c1
        clear c1
        go_wp2_with (go_at_fn g; (with_reducible refine hcall.mono ?_); rintro e w' ⟨rfl, hb⟩)
        go_roundg (most - (i + 1))
        case measure => omega
        case rel => exact ⟨i + 1, (i : Int) + 1, n, by omega, by omega, rfl, rfl, by go_num, ⟨by have h := HS.out; rw [if_pos (.inl HB1.out)] at h; rw [← h]; exact HL.out⟩, ⟨hb⟩⟩
      · have c1b : (b == 0) = false := beq_eq_false_iff_ne.mpr c1
        by_cases c2 : n < f
        · have c2b : decide (n < f) = true := decide_eq_true c2
          have HC2 := Aside0.mk c2
          clear c1 c2
          go_wp2_with (go_at_fn g; (with_reducible refine hcall.mono ?_); rintro e w' ⟨rfl, hb⟩)
          go_roundg (most - (i + 1))
          case measure => omega
          case rel => exact ⟨i + 1, (i : Int) + 1, n, by omega, by omega, rfl, rfl, by go_num, ⟨by have h := HS.out; rw [if_pos (.inr HC2.out)] at h; rw [← h]; exact HL.out⟩, ⟨hb⟩⟩
        · have c2b : decide (n < f) = false := decide_eq_false c2
          have HC2 := Aside0.mk (show ¬ (b = 0 ∨ n < f) by omega)
          clear c1 c2
          go_wp2_with (go_at_fn g; (with_reducible refine hcall.mono ?_); rintro e w' ⟨rfl, hb⟩)
          go_roundg (most - (i + 1))
          case measure => omega
          case rel => exact ⟨i + 1, b, f, by omega, by omega, rfl, rfl, by go_num, ⟨by have h := HS.out; rw [if_neg HC2.out] at h; rw [← h]; exact HL.out⟩, ⟨hb⟩⟩
    · have hle : ¬ (i : Int) + 1 ≤ (most : Int) := by omega
      have hfin : R = (b, f) := by
        have h := HL.out
        rw [show most - i = 0 by omega] at h
        exact h.symm
      have HF := Aside0.mk hfin
      clear hfin
      go_wp2
      go_ret2
      exact ⟨by rw [HF.out]; rfl, HB.out⟩
/-- How many tests a box needs in groups of a size, by so many rounds. -/
def tsG (k : Nat) (s : ByteArray) (g : Int) : Int := (impl_tests.f k s g).getD 0
theorem bestGroupOf_closure (k : Nat) (s : ByteArray) (i : Int) (h : (impl_tests.f k s i).isSome = true) (b : Nat) (W : World) (hcell : W.cell? ⟨b, 0, none⟩ = some (.string s)) :
    Calls Tryd.prog 45 #[.int .i64 i, .pointer (some ⟨b, 0, none⟩)] W fun e w' => e = .returned (.int .i64 (tsG k s i)) ∧ Below W.heap.size W w' := by
  have HP := Aside0.mk (show impl_tests.f k s i = some (tsG k s i) by unfold tsG; obtain ⟨x, hx⟩ := Option.isSome_iff_exists.mp h; rw [hx]; rfl)
  obtain ⟨q, hq⟩ : ∃ q, q = tsG k s i := ⟨_, rfl⟩
  rw [← hq] at HP ⊢
  clear hq h
  go_enter Tryd.func45, Tryd.ntmps45
  go_wp2_with (go_at_call 43; (with_reducible refine (impl_tests.calls k s i q _ HP.out).mono ?_); rintro e w' ⟨rfl, hb⟩)
  go_ret
  exact ⟨rfl, by first | exact hb | exact hb.below | (obtain ⟨nd, rfl⟩ := hb; exact pw_below_drewN (Below.refl _ _) nd) | (subst hb; exact Below.refl _ _)⟩
def impl_BestGroupOf.f (k : Nat) (a0 : ByteArray) : Option (Int × Int × Bool) :=
  (impl_isTested.f a0).bind fun t => if t = true then (if a0.size ≤ 1000000 ∧ (∀ i : Nat, i < a0.size → (impl_tests.f k a0 ((i : Int) + 1)).isSome = true) then some ((lstLoop (tsG k a0) a0.size 1 0 0).1, (lstLoop (tsG k a0) a0.size 1 0 0).2, true) else none) else some (0, 0, false)
theorem lst_same (t u : Int → Int) (n : Nat) : ∀ (g b f : Int), (∀ i : Nat, i < n → t (g + i) = u (g + i)) → lstLoop t n g b f = lstLoop u n g b f := by
  induction n with
  | zero => intro g b f _; rfl
  | succ n ih =>
    intro g b f h
    have h0 := h 0 (by omega)
    rw [show g + ((0 : Nat) : Int) = g by omega] at h0
    have h1 : ∀ i : Nat, i < n → t (g + 1 + i) = u (g + 1 + i) := fun i hi => by have := h (i + 1) (by omega); rw [show g + 1 + (i : Int) = g + ((i + 1 : Nat) : Int) by omega]; exact this
    simp only [lstLoop, h0]
    split
    · exact ih _ _ _ h1
    · exact ih _ _ _ h1
theorem impl_BestGroupOf.mono : ∀ a0 k, LeO (impl_BestGroupOf.f k a0) (impl_BestGroupOf.f (k + 1) a0) := by
  intro a0 k r h
  unfold impl_BestGroupOf.f at h ⊢
  obtain ⟨t, ht, h⟩ := Option.bind_eq_some_iff.mp h
  rw [ht]
  show (if t = true then _ else _) = _
  cases t with
  | false => exact h
  | true =>
    rw [if_pos rfl] at h ⊢
    split at h
    · rename_i g
      have e : ∀ i : Nat, i < a0.size → impl_tests.f (k + 1) a0 ((i : Int) + 1) = some (tsG k a0 ((i : Int) + 1)) := by
        intro i hi
        obtain ⟨x, hx⟩ := Option.isSome_iff_exists.mp (g.2 i hi)
        have := impl_tests.mono a0 ((i : Int) + 1) k x hx
        rw [this]; unfold tsG; rw [hx]; rfl
      rw [if_pos ⟨g.1, fun i hi => by rw [e i hi]; rfl⟩]
      rw [lst_same (tsG (k + 1) a0) (tsG k a0) a0.size 1 0 0 (fun i hi => by rw [show (1 : Int) + (i : Int) = (i : Int) + 1 by omega]; unfold tsG at e ⊢; rw [e i hi]; rfl)]
      exact h
    · cases h
set_option maxHeartbeats 2000000 in
theorem impl_BestGroupOf.calls (k : Nat) (a0 : ByteArray) (r1 : Int) (r2 : Int) (r3 : Bool) (w : World) (h : impl_BestGroupOf.f k a0 = some (r1, r2, r3)) :
    Calls Tryd.prog 15 #[.string a0] w fun e w' => e = .returned (.tuple #[.int .i64 r1, .int .i64 r2, .bool r3]) ∧ Below w.heap.size w w' := by
  unfold impl_BestGroupOf.f at h
  obtain ⟨t, ht, h⟩ := Option.bind_eq_some_iff.mp h
  have HT := Aside0.mk ht
  clear ht
  have hb0 : Below w.heap.size w (w.alloc (.cells #[.string a0] 9)) := (Below.refl _ w).alloc (Nat.le_refl _) _
  have hcell : (w.alloc (.cells #[.string a0] 9)).cell? ⟨w.heap.size, 0, none⟩ = some (.string a0) := by simp
  have hsz : (w.alloc (.cells #[.string a0] 9)).heap.size = w.heap.size + 1 := by simp
  cases t with
  | false =>
    simp at h
    obtain ⟨rfl, rfl, rfl⟩ := h
    have HB := Aside0.mk hb0
    clear hb0 hsz
    go_enter Tryd.func15, Tryd.ntmps15
    go_wp2_with (go_at_call 41; (with_reducible refine (impl_isTested.calls a0 false _ HT.out).mono ?_); rintro e w' ⟨rfl, hb⟩)
    go_ret3
    exact ⟨rfl, HB.out.trans (hb.mono (by simp))⟩
  | true =>
    rw [if_pos rfl] at h
    split at h
    · rename_i g
      obtain ⟨R, hR⟩ : ∃ R, R = lstLoop (tsG k a0) a0.size 1 0 0 := ⟨_, rfl⟩
      simp only [← hR, Option.some.injEq, Prod.mk.injEq] at h
      have HRR := Aside0.mk hR
      clear hR
      obtain ⟨rfl, rfl, rfl⟩ := h
      have hL : ∀ W : World, Below (w.heap.size + 1) (w.alloc (.cells #[.string a0] 9)) W → Calls Tryd.prog 44 #[.int .i64 (a0.size : Int), .func (.func 45) #[] #[.pointer (some ⟨w.heap.size, 0, none⟩)]] W
          fun e w' => e = .returned (.tuple #[.int .i64 R.1, .int .i64 R.2]) ∧ Below w.heap.size w w' := by
        intro W hW
        have hl := least_any 45 #[.pointer (some ⟨w.heap.size, 0, none⟩)] (enters_of Tryd.func45 (by kernel_rfl) rfl) (tsG k a0) a0.size g.1 W
          (fun W2 i h1 h2 hW2 => by
            obtain ⟨m, hm⟩ := Int.eq_ofNat_of_zero_le (show 0 ≤ i - 1 by omega)
            have ei : i = (m : Int) + 1 := by omega
            have hz := hW.size
            rw [hsz] at hz
            refine (bestGroupOf_closure k a0 i (by rw [ei]; exact g.2 m (by omega)) w.heap.size W2 ((hW2.cell (p := ⟨w.heap.size, 0, none⟩) (by show w.heap.size < W.heap.size; omega)).trans ((hW.cell (p := ⟨w.heap.size, 0, none⟩) (by show w.heap.size < w.heap.size + 1; omega)).trans hcell))).mono ?_
            rintro e w' ⟨rfl, hd⟩
            exact ⟨rfl, hW2.trans (hd.mono hW2.size)⟩)
        rw [← HRR.out] at hl
        refine hl.mono ?_
        rintro e w' ⟨rfl, hb⟩
        have hz := hW.size
        rw [hsz] at hz
        exact ⟨rfl, hb0.trans ((hW.mono (Nat.le_succ _)).trans (hb.mono (by omega)))⟩
      have HL := Aside0.mk hL
      have HCL := Aside0.mk hcell
      have HSZ := Aside0.mk hsz
      clear hL hb0 hsz g
      go_enter Tryd.func15, Tryd.ntmps15
      go_wp2_with (first | (go_at_call 41; (with_reducible refine (impl_isTested.calls a0 true _ HT.out).mono ?_); rintro e w' ⟨rfl, hb⟩; have hcell' := (hb.cell (p := ⟨w.heap.size, 0, none⟩) (by simp)).trans HCL.out) | (go_at_call 44; (with_reducible refine (HL.out _ (by rw [← HSZ.out]; exact hb)).mono ?_); rintro e w' ⟨rfl, hb⟩))
      go_ret3
      exact ⟨rfl, hb⟩
    · cases h

end Go.Proofs.YtghfhcmjnpjgdaaDoor.X
