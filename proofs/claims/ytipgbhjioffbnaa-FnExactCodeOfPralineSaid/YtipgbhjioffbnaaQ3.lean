-- Laid by a program of this session (wip/pp.py) over the seat's translation, with its own texts for some functions.
import Derived.Test.YtipgbhjioffbnaaQ0
namespace Go.Proofs.Ytipgbhjioffbnaa.Q
open Go.RowKit Go.Proofs.YtipgbhjioffbnaaW.PrintWords Go.Proofs.YtipgbhjioffbnaaW.PrintLast Go.Proofs.YtipgbhjioffbnaaW.PrintMore
attribute [local go_sem] max2_int min2_int max_two min_two max_three min_three max_four min_four   -- for this text's walks alone
set_option linter.unusedVariables false
set_option linter.unusedSimpArgs false

/-! ### impl_product: function 69 -/
def impl_product.l0 : Nat → Int → Int → List Int → Int → Int → Option (Int)
  | 0, _, _, _, _, _ => none
  | k + 1, x0, x5, x8, x9, x10 => if x10 < x9 then (if 0 ≤ x10 then (if x10 < (x8.length : Int) then (if (rd x8 x10) > 0 then (if (rd x8 x10) = 0 then (none) else (if x5 > (wrap64 (Int.tdiv x0 (rd x8 x10))) then (some (wrap64 (x0 + 1))) else (impl_product.l0 k x0 (wrap64 (x5 * (rd x8 x10))) x8 x9 (wrap64 (x10 + 1))))) else (impl_product.l0 k x0 (wrap64 (x5 * (rd x8 x10))) x8 x9 (wrap64 (x10 + 1)))) else (none)) else (none)) else (some x5)
def impl_product.f (k : Nat) (a0 : Int) (l1 : List Int) : Option (Int) := impl_product.l0 k a0 1 l1 (l1.length : Int) 0
theorem impl_product.mono_l : ∀ k, (∀ y0 y1 y2 y3 y4, LeO (impl_product.l0 k y0 y1 y2 y3 y4) (impl_product.l0 (k + 1) y0 y1 y2 y3 y4))
  | 0 => fun _ _ _ _ _ r h => by simp [impl_product.l0] at h
  | k + 1 => by
    have ih0 := impl_product.mono_l k
    · intro y0 y1 y2 y3 y4
      unfold impl_product.l0
      repeat' first
      | (with_reducible exact ih0 _ _ _ _ _)
      | (with_reducible exact LeO.refl _)
      | (with_reducible exact LeO.none _)
      | (with_reducible refine LeO.ite ?_ ?_)
      | (with_reducible refine LeO.bind ?_ (fun _ => ?_))
      | exact ih0 _ _ _ _ _
      | exact LeO.none _
      | refine LeO.ite ?_ ?_
      | refine LeO.bind ?_ (fun _ => ?_)
theorem impl_product.mono : ∀ a0 a1 k, LeO (impl_product.f k a0 a1) (impl_product.f (k + 1) a0 a1) := by
  intro a0 a1 k
  have ih0 := impl_product.mono_l k
  unfold impl_product.f
  repeat' first
      | (with_reducible exact ih0 _ _ _ _ _)
      | (with_reducible exact LeO.refl _)
      | (with_reducible exact LeO.none _)
      | (with_reducible refine LeO.ite ?_ ?_)
      | (with_reducible refine LeO.bind ?_ (fun _ => ?_))
      | exact ih0 _ _ _ _ _
      | exact LeO.none _
      | refine LeO.ite ?_ ?_
      | refine LeO.bind ?_ (fun _ => ?_)
set_option maxHeartbeats 8000000 in
set_option maxRecDepth 100000 in
theorem impl_product.calls (k : Nat) (a0 : Int) (A1 : Option Addr) (c1 : Nat) (l1 : List Int) (r : Int) (w : World) (hr1 : Kd.C (Kd.int .i64) w A1 l1.length l1) (hc1 : l1.length ≤ c1) (h : impl_product.f k a0 l1 = some r) :
    Calls Try.prog 69 #[.int .i64 a0, .slice A1 l1.length c1] w fun e w' => e = .returned (.int .i64 r) ∧ Drawn0 w w' := by
  have HR1 := Aside0.mk hr1
  have HC1 := Aside0.mk hc1
  clear hr1 hc1
  have H : (impl_product.l0 k a0 1 l1 (l1.length : Int) 0) = some r := h
  clear h
  have H' := Aside0.mk H
  clear H
  go_enter Try.func69, Try.ntmps69
  go_wp2
  go_loopg [5, 10] k (fun kq v5 v10 w' => ∃ (x5_1 : Int) (x10_1 : Int), v5 = .int .i64 x5_1 ∧ v10 = .int .i64 x10_1 ∧ Aside0 (impl_product.l0 kq a0 x5_1 l1 (l1.length : Int) x10_1 = some r) ∧ Aside0 (kq ≤ k) ∧ Drawn0 w w')
  case atStart => exact ⟨(1), (0), (by first | rfl | (simp; done) | (simp [*]; done)), (by first | rfl | (simp; done) | (simp [*]; done)), H', ⟨Nat.le_refl _⟩, by repeat (first | exact Drawn0.refl _ | apply Drawn0.step)⟩
  case round =>
    clear H'
    try clear c1
    try clear p2
    obtain ⟨x5_1, x10_1, rfl, rfl, HA, HK1, ⟨m1, rfl⟩⟩ := hrel
    cases gk with
    | zero => exact absurd HA.out (by simp [impl_product.l0])
    | succ k1 =>
      have H := HA.out
      clear HA
      simp only [impl_product.l0] at H
      by_cases c3 : x10_1 < (l1.length : Int)
      · rw [if_pos c3] at H
        have c3b0 : decide (x10_1 < (l1.length : Int)) = true := decide_eq_true c3
        clear c3
        by_cases c4 : 0 ≤ x10_1
        · rw [if_pos c4] at H
          have c4b0 : decide (0 ≤ x10_1) = true := decide_eq_true c4
          clear c4
          by_cases c5 : x10_1 < (l1.length : Int)
          · rw [if_pos c5] at H
            have c5b0 : decide (x10_1 < (l1.length : Int)) = true := decide_eq_true c5
            clear c5
            by_cases c6 : (rd l1 x10_1) > 0
            · rw [if_pos c6] at H
              have c6b0 : decide (0 < (rd l1 x10_1)) = true := decide_eq_true c6
              clear c6
              by_cases c7 : (rd l1 x10_1) = 0
              · rw [if_pos c7] at H
                exact absurd H (by simp)
              · rw [if_neg c7] at H
                have c7b0 : ((rd l1 x10_1) == 0) = false := beq_eq_false_iff_ne.mpr c7
                have c7b1 : ((rd l1 x10_1) != 0) = true := bne_iff_ne.mpr c7
                by_cases c8 : x5_1 > (wrap64 (Int.tdiv a0 (rd l1 x10_1)))
                · rw [if_pos c8] at H
                  have c8b0 : decide ((wrap64 (Int.tdiv a0 (rd l1 x10_1))) < x5_1) = true := decide_eq_true c8
                  clear c8
                  obtain rfl := Option.some.inj H
                  have p120 : 0 ≤ (x10_1 : Int) := of_decide_eq_true (by first | (with_reducible assumption) | assumption)
                  have q120 : x10_1 < (l1.length : Int) := of_decide_eq_true (by first | (with_reducible assumption) | assumption)
                  obtain ⟨ad120, e120, hx120_0⟩ := Kd.at_int HR1.out x10_1 p120 q120
                  cases e120
                  replace p120 := eq_true p120
                  replace q120 := eq_true q120
                  go_wp2
                  go_ret
                  exact ⟨by first | rfl | (simp; done) | (simp [*]; done), by repeat (first | exact Drawn0.refl _ | apply Drawn0.step)⟩
                · rw [if_neg c8] at H
                  have c8b0 : decide ((wrap64 (Int.tdiv a0 (rd l1 x10_1))) < x5_1) = false := decide_eq_false c8
                  clear c8
                  have H' := Aside0.mk H
                  clear H
                  have p120 : 0 ≤ (x10_1 : Int) := of_decide_eq_true (by first | (with_reducible assumption) | assumption)
                  have q120 : x10_1 < (l1.length : Int) := of_decide_eq_true (by first | (with_reducible assumption) | assumption)
                  obtain ⟨ad120, e120, hx120_0⟩ := Kd.at_int HR1.out x10_1 p120 q120
                  cases e120
                  replace p120 := eq_true p120
                  replace q120 := eq_true q120
                  go_wp2
                  go_roundg k1
                  case measure => have := HK1.out; omega
                  case rel => exact ⟨(wrap64 (x5_1 * (rd l1 x10_1))), (wrap64 (x10_1 + 1)), (by first | rfl | (simp; done) | (simp [*]; done)), (by first | rfl | (simp; done) | (simp [*]; done)), H', ⟨by have := HK1.out; omega⟩, by repeat (first | exact Drawn0.refl _ | apply Drawn0.step)⟩
            · rw [if_neg c6] at H
              have c6b0 : decide (0 < (rd l1 x10_1)) = false := decide_eq_false c6
              clear c6
              have H' := Aside0.mk H
              clear H
              have p120 : 0 ≤ (x10_1 : Int) := of_decide_eq_true (by first | (with_reducible assumption) | assumption)
              have q120 : x10_1 < (l1.length : Int) := of_decide_eq_true (by first | (with_reducible assumption) | assumption)
              obtain ⟨ad120, e120, hx120_0⟩ := Kd.at_int HR1.out x10_1 p120 q120
              cases e120
              replace p120 := eq_true p120
              replace q120 := eq_true q120
              go_wp2
              go_roundg k1
              case measure => have := HK1.out; omega
              case rel => exact ⟨(wrap64 (x5_1 * (rd l1 x10_1))), (wrap64 (x10_1 + 1)), (by first | rfl | (simp; done) | (simp [*]; done)), (by first | rfl | (simp; done) | (simp [*]; done)), H', ⟨by have := HK1.out; omega⟩, by repeat (first | exact Drawn0.refl _ | apply Drawn0.step)⟩
          · rw [if_neg c5] at H
            exact absurd H (by simp)
        · rw [if_neg c4] at H
          exact absurd H (by simp)
      · rw [if_neg c3] at H
        have c3b0 : decide (x10_1 < (l1.length : Int)) = false := decide_eq_false c3
        clear c3
        obtain rfl := Option.some.inj H
        go_wp2
        go_ret
        exact ⟨by first | rfl | (simp; done) | (simp [*]; done), by repeat (first | exact Drawn0.refl _ | apply Drawn0.step)⟩

/-! ### bits_Mul32: function 72 -/
def bits_Mul32.f (a0 : Int) (a1 : Int) : Option (Int × Int) := some (((IntKind.u64.wrap ((IntKind.u64.wrap (a0)) * (IntKind.u64.wrap (a1)))) / 4294967296) % 4294967296, (IntKind.u64.wrap ((IntKind.u64.wrap (a0)) * (IntKind.u64.wrap (a1)))) % 4294967296)
set_option maxHeartbeats 8000000 in
set_option maxRecDepth 100000 in
theorem bits_Mul32.calls (a0 : Int) (a1 : Int) (r1 : Int) (r2 : Int) (w : World) (h : bits_Mul32.f a0 a1 = some (r1, r2)) :
    Calls Try.prog 72 #[.int .u32 a0, .int .u32 a1] w fun e w' => e = .returned (.tuple #[.int .u32 r1, .int .u32 r2]) ∧ Drawn0 w w' := by
  have H : (some (((IntKind.u64.wrap ((IntKind.u64.wrap (a0)) * (IntKind.u64.wrap (a1)))) / 4294967296) % 4294967296, (IntKind.u64.wrap ((IntKind.u64.wrap (a0)) * (IntKind.u64.wrap (a1)))) % 4294967296)) = some (r1, r2) := h
  clear h
  simp only [Option.some.injEq, Prod.mk.injEq] at H
  obtain ⟨rfl, rfl⟩ := H
  go_enter Try.func72, Try.ntmps72
  go_wp2
  go_ret2
  exact ⟨by first | rfl | (simp; done) | (simp [*]; done), by repeat (first | exact Drawn0.refl _ | apply Drawn0.step)⟩

/-! ### bits_Mul64: function 73 -/
def bits_Mul64.f (a0 : Int) (a1 : Int) : Option (Int × Int) := some (IntKind.u64.wrap ((IntKind.u64.wrap ((IntKind.u64.wrap ((a0 / 4294967296) * (a1 / 4294967296))) + ((IntKind.u64.wrap ((IntKind.u64.wrap ((a0 / 4294967296) * (Go.bits .and .u64 a1 4294967295))) + ((IntKind.u64.wrap ((Go.bits .and .u64 a0 4294967295) * (Go.bits .and .u64 a1 4294967295))) / 4294967296))) / 4294967296))) + ((IntKind.u64.wrap ((Go.bits .and .u64 (IntKind.u64.wrap ((IntKind.u64.wrap ((a0 / 4294967296) * (Go.bits .and .u64 a1 4294967295))) + ((IntKind.u64.wrap ((Go.bits .and .u64 a0 4294967295) * (Go.bits .and .u64 a1 4294967295))) / 4294967296))) 4294967295) + (IntKind.u64.wrap ((Go.bits .and .u64 a0 4294967295) * (a1 / 4294967296))))) / 4294967296)), IntKind.u64.wrap (a0 * a1))
set_option maxHeartbeats 8000000 in
set_option maxRecDepth 100000 in
theorem bits_Mul64.calls (a0 : Int) (a1 : Int) (r1 : Int) (r2 : Int) (w : World) (h : bits_Mul64.f a0 a1 = some (r1, r2)) :
    Calls Try.prog 73 #[.int .u64 a0, .int .u64 a1] w fun e w' => e = .returned (.tuple #[.int .u64 r1, .int .u64 r2]) ∧ Drawn0 w w' := by
  have H : (some (IntKind.u64.wrap ((IntKind.u64.wrap ((IntKind.u64.wrap ((a0 / 4294967296) * (a1 / 4294967296))) + ((IntKind.u64.wrap ((IntKind.u64.wrap ((a0 / 4294967296) * (Go.bits .and .u64 a1 4294967295))) + ((IntKind.u64.wrap ((Go.bits .and .u64 a0 4294967295) * (Go.bits .and .u64 a1 4294967295))) / 4294967296))) / 4294967296))) + ((IntKind.u64.wrap ((Go.bits .and .u64 (IntKind.u64.wrap ((IntKind.u64.wrap ((a0 / 4294967296) * (Go.bits .and .u64 a1 4294967295))) + ((IntKind.u64.wrap ((Go.bits .and .u64 a0 4294967295) * (Go.bits .and .u64 a1 4294967295))) / 4294967296))) 4294967295) + (IntKind.u64.wrap ((Go.bits .and .u64 a0 4294967295) * (a1 / 4294967296))))) / 4294967296)), IntKind.u64.wrap (a0 * a1))) = some (r1, r2) := h
  clear h
  simp only [Option.some.injEq, Prod.mk.injEq] at H
  obtain ⟨rfl, rfl⟩ := H
  go_enter Try.func73, Try.ntmps73
  go_wp2
  go_ret2
  exact ⟨by first | rfl | (simp; done) | (simp [*]; done), by repeat (first | exact Drawn0.refl _ | apply Drawn0.step)⟩

/-! ### bits_Mul: function 71 -/
def bits_Mul.f (a0 : Int) (a1 : Int) : Option (Int × Int) := (bits_Mul64.f a0 a1).bind fun bt121 => (some (bt121.1, bt121.2))
set_option maxHeartbeats 8000000 in
set_option maxRecDepth 100000 in
theorem bits_Mul.calls (a0 : Int) (a1 : Int) (r1 : Int) (r2 : Int) (w : World) (h : bits_Mul.f a0 a1 = some (r1, r2)) :
    Calls Try.prog 71 #[.int .u64 a0, .int .u64 a1] w fun e w' => e = .returned (.tuple #[.int .u64 r1, .int .u64 r2]) ∧ Drawn0 w w' := by
  have H : ((bits_Mul64.f a0 a1).bind fun bt121 => (some (bt121.1, bt121.2))) = some (r1, r2) := h
  clear h
  replace H := Option.bind_eq_some_iff.mp H
  obtain ⟨⟨t121, t122⟩, A30, H⟩ := H
  replace H : (some (t121, t122)) = some (r1, r2) := H
  have A3 := Aside0.mk A30
  clear A30
  simp only [Option.some.injEq, Prod.mk.injEq] at H
  obtain ⟨rfl, rfl⟩ := H
  go_enter Try.func71, Try.ntmps71
  go_wp2_with (first | ((with_reducible refine gate_callee (f := 73) rfl ?_); refine goesL_ (some 25) rfl rfl Try.func73 (by kernel_rfl) rfl #[.int .u64 a0, .int .u64 a1] rfl (by (try simp only [List.map_toArray, List.map_cons, List.map_nil]); first | done | rfl | (simp only [List.length_drop, List.length_take]; rfl)) ?_; (with_reducible refine (bits_Mul64.calls a0 a1 t121 t122 _ A3.out).mono ?_); rintro e w' ⟨rfl, ⟨nd, rfl⟩⟩; refine ⟨_, rfl, ?_⟩))
  go_ret2
  exact ⟨by first | rfl | (simp; done) | (simp [*]; done), by repeat (first | exact Drawn0.refl _ | apply Drawn0.step)⟩

/-! ### slices_Repeat_int_int: function 70 -/
theorem rpi_mul (m : Nat) (hm : m ≤ 1048576) : bits_Mul.f 1 (m : Int) = some (0, (m : Int)) := by
  have e1 : Go.bits .and .u64 1 4294967295 = 1 := by decide
  have e2 : Go.bits .and .u64 (m : Int) 4294967295 = (m : Int) := by
    have h := u64_and_nat m 4294967295 (by omega) (by omega)
    rw [nat_mask32, Nat.mod_eq_of_lt (by omega)] at h
    exact h
  have d1 : (1 : Int) / 4294967296 = 0 := by decide
  have d2 : (m : Int) / 4294967296 = 0 := by omega
  unfold bits_Mul.f bits_Mul64.f
  rw [e1, e2, d1, d2]
  simp only [Int.zero_mul, Int.mul_zero, Int.one_mul, Int.add_zero, Int.zero_add]
  have e3 : Go.bits .and .u64 0 4294967295 = 0 := by decide
  have u0 := IntWalk.u64_in 0 (by omega)
  have um := IntWalk.u64_in (m : Int) (by omega)
  have d0 : (0 : Int) / 4294967296 = 0 := by decide
  simp only [u0, um, d0, d2, e3, Int.zero_add, Int.add_zero, Option.bind_some]
theorem rpi_made (m : Nat) : madeCells #[Value.int .i64 0] m = (List.replicate m (Value.int .i64 0)).toArray := by
  apply Array.ext
  · simp [size_madeCells]
  · intro i h1 h2
    simp [madeCells, Nat.mod_one]
theorem rpi_splice (X Z : Value) (j k m : Nat) (h : j + k ≤ m) : splice (List.replicate j X ++ List.replicate (m - j) Z) j (List.replicate k X) = List.replicate (j + k) X ++ List.replicate (m - (j + k)) Z := by
  unfold splice
  rw [List.take_append_of_le_length (by simp), List.take_of_length_le (by simp), List.drop_append, List.drop_of_length_le (by first | (simp; done) | (simp; omega)), List.nil_append]
  simp only [List.length_replicate, List.drop_replicate]
  rw [← List.append_assoc, List.replicate_append_replicate]
  congr 2
  omega
def slices_Repeat_int_int.f (l0 : List Int) (a1 : Int) : Option (List Int) :=
  if l0.length = 1 then (if 0 ≤ a1 then (if a1 ≤ 1048576 then some (List.replicate a1.toNat (l0.getD 0 0)) else none) else none) else none
set_option maxHeartbeats 2000000 in
theorem rpi_walk (m : Nat) (hm : m ≤ 1048576) (A0 : Option Addr) (c0 : Nat) (x : Int) (w : World) (hr : Kd.C (Kd.int .i64) w A0 1 [x]) :
    Calls Try.prog 70 #[.slice A0 1 c0, .int .i64 (m : Int)] w fun e w' => ∃ v, e = .returned v ∧ Kd.R (Kd.int .i64) 3 w' w.heap.size (fun _ => True) v (List.replicate m x) ∧ Below w.heap.size w w' := by
  obtain ⟨ad, e0, hx⟩ := Kd.at_int hr 0 (by omega) (by omega)
  cases e0
  replace hx : w.cell? (ad.add 0) = some (Value.int .i64 x) := hx
  have hadlt : ad.block < w.heap.size := by
    have h := World.block_lt_of_cell? w _ hx
    simpa [Addr.add] using h
  obtain ⟨i0, hi, hz0, hz1, hz2⟩ := info_parts info3
  have hmk : ∀ W : World, (Instr.makeSlice 33 (.int .i64 (m : Int)) (.int .i64 (m : Int))).run Try.prog W = .ok (.slice (some ⟨W.heap.size, 0, none⟩) m m) (W.alloc (.cells (List.replicate m (Value.int .i64 0)).toArray 3)) := by
    intro W
    have h := run_make (P := Try.prog) W 33 3 i0 (Value.int .i64 0) Try.underlying33 hi hz0 .i64 .i64 (m : Int) (m : Int) (by omega) (by omega) (by rw [hz2]; omega) (by omega)
    simp only [Int.toNat_natCast] at h
    rw [hz1, Nat.mul_one] at h
    rw [h]
    show Result.ok _ (W.alloc (.cells (madeCells #[Value.int .i64 0] m) 3)) = _
    rw [rpi_made]
  have hsz1 : (Try.prog.info? 3).map (·.size) = some 1 := by rw [hi]; simp [hz1]
  have HSZ := Lib.hid hsz1
  have HX := Lib.hid hx
  have HMUL := Lib.hid (rpi_mul m hm)
  obtain ⟨X, hX⟩ : ∃ X : Value, X = Value.int .i64 x := ⟨_, rfl⟩
  have HXE := Lib.hid hX
  have hX1 : X.oneCell' = true := by rw [hX]; rfl
  have HX1 := Lib.hid hX1
  have HAD := Lib.hid hadlt
  have mpos : 0 ≤ (m : Int) := by omega
  clear hsz1 hx hX hX1 hz0 hz1 hz2 hi hr
  obtain ⟨k0, hk0⟩ : ∃ k : Nat, k = min 1 m := ⟨_, rfl⟩
  have hk1 : k0 ≤ 1 := by omega
  have hk2 : k0 ≤ m := by omega
  have hk3 : 1 ≤ k0 ∨ m = 0 := by omega
  have HK0 := Lib.hid hk0
  have HK3 := Lib.hid hk3
  clear hk0 hk3
  go_enter Try.func70, Try.ntmps70
  go_wp2_with (first | (go_at_call 71; (with_reducible refine (bits_Mul.calls 1 (m : Int) 0 (m : Int) _ HMUL.out).mono ?_); rintro e w' ⟨rfl, ⟨nd, rfl⟩⟩) | (with_reducible refine wpList_copy_splice rfl (.tmp 31) (.tmp 32) 33 33 rfl 3 Try.underlying33 HSZ.out _ _ _ _ _ _ rfl rfl w.heap.size 0 (List.replicate m (Value.int .i64 0)) 3 ?c1 (List.replicate k0 X) ?c2 ?c3 ?c4 ?c5 w.heap.size w ?c6 (Nat.le_refl _) ?_))
  case c1 => first | exact heap_alloc_new _ _ | (rw [← List.toArray_replicate]; exact heap_alloc_new _ _)
  case c2 => rw [List.length_replicate, HK0.out]; first | done | rfl
  case c3 =>
    intro _
    first | refine ⟨rfl, ad, rfl, ?_⟩ | skip
    intro j v hj
    have hj1 : j < k0 := by
      have h := (List.getElem?_eq_some_iff.1 hj).1
      simpa using h
    rw [List.getElem?_replicate, if_pos hj1] at hj
    cases hj
    obtain rfl : j = 0 := by omega
    rw [World.cell?_alloc_lt _ _ _ (show (ad.add 0).block < _ from by simpa [Addr.add] using HAD.out), HXE.out]
    exact HX.out
  case c4 => first | (simp; done) | (simp; omega)
  case c5 => intro v hv; rw [List.mem_replicate] at hv; rw [hv.2]; exact HX1.out
  case c6 => exact (pw_below_drewN (Below.refl _ _) _).alloc (by simp) _
  · intro w2 HG2 hb2
    have HG3 : Hid (w2.heap[w.heap.size]? = some (.cells (List.replicate k0 X ++ List.replicate (m - k0) (Value.int .i64 0)).toArray 3 (0, 0))) := by
      have h := HG2.out
      have h2 := rpi_splice X (Value.int .i64 0) 0 k0 m (by omega)
      simp only [List.replicate_zero, List.nil_append, Nat.sub_zero, Nat.zero_add] at h2
      rw [h2] at h
      exact Lib.hid h
    clear HG2
    have hlen0 : (List.replicate k0 X).length = k0 := List.length_replicate
    try rw [hlen0]
    clear hlen0
    have HB2 := Lib.hid hb2
    clear hb2
    go_wp2
    go_loopg [8] m (fun gg v8 wr => ∃ j : Nat, Hid (1 ≤ j ∨ m = 0) ∧ j ≤ m ∧ m - j ≤ gg ∧ v8 = .int .i64 (j : Int) ∧ Hid (wr.heap[w.heap.size]? = some (.cells (List.replicate j X ++ List.replicate (m - j) (Value.int .i64 0)).toArray 3 (0, 0))) ∧ Hid (Below w.heap.size w wr))
    case atStart => exact ⟨k0, HK3, hk2, by omega, rfl, HG3, HB2⟩
    case round =>
      obtain ⟨j, hj1, hj2, hj3, rfl, HG, HB⟩ := hrel
      by_cases hlt : j < m
      · have hlt2 : (j : Int) < (m : Int) := by omega
        have hle2 : (j : Int) ≤ (m : Int) := by omega
        have hne : ¬ (j = m) := by omega
        have h0j : 0 ≤ (j : Int) := by omega
        obtain ⟨k, hk⟩ : ∃ k : Nat, k = min j (m - j) := ⟨_, rfl⟩
        have hj0 := hj1.out
        have hk1 : 1 ≤ k := by omega
        clear hj0
        have hk2 : j + k ≤ m := by omega
        have hk3 : k ≤ j := by omega
        have HK := Lib.hid hk
        clear hk
        have hfit : j + (List.replicate k X).length ≤ (List.replicate j X ++ List.replicate (m - j) (Value.int .i64 0)).length := by
          simp only [List.length_append, List.length_replicate]
          omega
        have hone : ∀ v ∈ List.replicate k X, v.oneCell' = true := by intro v hv; rw [List.mem_replicate] at hv; rw [hv.2]; exact HX1.out
        have hnn : (List.replicate k X).length = Nat.min j (m - j) := by rw [List.length_replicate, HK.out]; first | done | rfl
        have hsrc : ∀ (i : Nat) (v : Value), (List.replicate k X)[i]? = some v → wr.cell? ((⟨w.heap.size, 0, none⟩ : Addr).add i) = some v := by
          intro i v hi
          have hil : i < k := by
            have h := (List.getElem?_eq_some_iff.1 hi).1
            simpa using h
          have hij : i < j := by omega
          rw [List.getElem?_replicate, if_pos hil] at hi
          cases hi
          rw [add_plain]
          rw [cell_of_row _ _ i _ _ (0, 0) HG.out]
          simp [List.getElem?_append_left, hij]
        have HF1 := Lib.hid hfit
        have HF2 := Lib.hid hone
        have HF3 := Lib.hid hnn
        have HF4 := Lib.hid hsrc
        clear hfit hone hnn hsrc
        have hsum : IntKind.i64.wrap ((j : Int) + (k : Int)) = (j : Int) + (k : Int) := IntWalk.i64_in _ (by omega)
        go_wp2
        go_region_law (refine step_copy_splice rfl (.tmp 41) (.tmp 44) 33 33 rfl 3 Try.underlying33 HSZ.out (some ⟨w.heap.size, j, none⟩) (some ⟨w.heap.size, 0, none⟩) (m - j) (m - j) j m (by first | (simp [Act.eval, Act.put]; done) | (simp [Act.eval, Act.put]; omega)) (by first | (simp [Act.eval, Act.put]; done) | (simp [Act.eval, Act.put]; omega)) w.heap.size j (List.replicate j X ++ List.replicate (m - j) (Value.int .i64 0)) 3 HG.out (List.replicate k X) HF3.out (fun _ => ⟨rfl, _, rfl, HF4.out⟩) HF1.out HF2.out w.heap.size w (below_drew HB.out) (Nat.le_refl _) ?_; intro w3 HG4 hb4)
        all_goals
          have HG5 : Hid (w3.heap[w.heap.size]? = some (.cells (List.replicate (j + k) X ++ List.replicate (m - (j + k)) (Value.int .i64 0)).toArray 3 (0, 0))) := by
            have h := HG4.out
            rw [rpi_splice X (Value.int .i64 0) j _ m (by omega)] at h
            exact Lib.hid h
          clear HG4
          have HB5 := Lib.hid hb4
          clear hb4
          have hlen : (List.replicate k X).length = k := List.length_replicate
          try rw [hlen]
          clear hlen hsum
          go_wp2
          go_roundg (m - (j + k))
          case measure => omega
          case rel => exact ⟨j + k, Lib.hid (by omega), by omega, by omega, by go_num, HG5, HB5⟩
      · have e1 : j = m := by omega
        subst e1
        go_wp2
        go_ret
        refine ⟨_, rfl, ?_, HB.out⟩
        have hg := HG.out
        simp only [Nat.sub_self, List.replicate_zero, List.append_nil] at hg
        refine Kd.R_of_own ?_ (fun _ _ => trivial)
        rw [List.length_replicate]
        refine ⟨by simp [encs], .inr ⟨w.heap.size, j, _, by simp, Nat.le_refl _, hg, Nat.le_refl _, by simp [maxLen]; omega, by simp, ?_⟩⟩
        simp [encs, HXE.out]
theorem slices_Repeat_int_int.calls (A0 : Option Addr) (c0 : Nat) (l0 : List Int) (a1 : Int) (r : List Int) (w : World) (hr0 : Kd.C (Kd.int .i64) w A0 l0.length l0) (hc0 : l0.length ≤ c0) (h : slices_Repeat_int_int.f l0 a1 = some r) :
    Calls Try.prog 70 #[.slice A0 l0.length c0, .int .i64 a1] w fun e w' => ∃ v0_ : Value, e = .returned (v0_) ∧ Kd.R (Kd.int .i64) 3 w' w.heap.size (fun _ => True) v0_ r ∧ Below w.heap.size w w' := by
  unfold slices_Repeat_int_int.f at h
  by_cases h1 : l0.length = 1
  · rw [if_pos h1] at h
    by_cases h2 : 0 ≤ a1
    · rw [if_pos h2] at h
      by_cases h3 : a1 ≤ 1048576
      · rw [if_pos h3] at h
        obtain ⟨m, rfl⟩ := Int.eq_ofNat_of_zero_le h2
        obtain ⟨x, rfl⟩ := List.length_eq_one_iff.mp h1
        obtain rfl := Option.some.inj h
        exact rpi_walk m (by omega) A0 c0 x w hr0
      · rw [if_neg h3] at h
        exact absurd h (by simp)
    · rw [if_neg h2] at h
      exact absurd h (by simp)
  · rw [if_neg h1] at h
    exact absurd h (by simp)

/-! ### impl_enough: function 58 -/
def impl_enough.f (k : Nat) (a0 : Int) (a1 : Int) : Option (Int) := (slices_Repeat_int_int.f (([wrap64 (a1 + 1)] : List Int)) a0).bind fun t126 => ((impl_product.f k 1000000 t126).bind fun t129 => (some (mn t129 1000000)))
theorem impl_enough.mono : ∀ a0 a1 k, LeO (impl_enough.f k a0 a1) (impl_enough.f (k + 1) a0 a1) := by
  intro a0 a1 k
  unfold impl_enough.f
  repeat' first
      | (with_reducible exact impl_product.mono _ _ _)
      | (with_reducible exact LeO.refl _)
      | (with_reducible exact LeO.none _)
      | (with_reducible refine LeO.ite ?_ ?_)
      | (with_reducible refine LeO.bind ?_ (fun _ => ?_))
      | exact impl_product.mono _ _ _
      | exact LeO.none _
      | refine LeO.ite ?_ ?_
      | refine LeO.bind ?_ (fun _ => ?_)
set_option maxHeartbeats 8000000 in
set_option maxRecDepth 100000 in
theorem impl_enough.calls (k : Nat) (a0 : Int) (a1 : Int) (r : Int) (w : World) (h : impl_enough.f k a0 a1 = some r) :
    Calls Try.prog 58 #[.int .i64 a0, .int .i64 a1] w fun e w' => e = .returned (.int .i64 r) ∧ Below w.heap.size w w' := by
  have HB := Aside0.mk (Below.refl w.heap.size w)
  have H : ((slices_Repeat_int_int.f (([wrap64 (a1 + 1)] : List Int)) a0).bind fun t126 => ((impl_product.f k 1000000 t126).bind fun t129 => (some (mn t129 1000000)))) = some r := h
  clear h
  obtain ⟨y123, hy123⟩ : ∃ y_ : List Int, y_ = (([wrap64 (a1 + 1)] : List Int)) := ⟨_, rfl⟩
  replace H : ((slices_Repeat_int_int.f y123 a0).bind fun t126 => ((impl_product.f k 1000000 t126).bind fun t129 => (some (mn t129 1000000)))) = some r := by first | (rw [hy123]; with_reducible exact H) | (have H2_ := (Option.bind_some _ _).symm.trans H; rw [hy123]; with_reducible exact H2_) | (have H2_ := (Option.bind_some _ _).symm.trans H; with_reducible exact H2_) | with_reducible exact H | (rw [hy123]; exact H) | exact H
  have Ny123 := Aside0.mk hy123
  clear hy123
  replace H := Option.bind_eq_some_iff.mp H
  obtain ⟨t126, A30, H⟩ := H
  replace H : ((impl_product.f k 1000000 t126).bind fun t129 => (some (mn t129 1000000))) = some r := H
  have A3 := Aside0.mk A30
  clear A30
  replace H := Option.bind_eq_some_iff.mp H
  obtain ⟨t129, A40, H⟩ := H
  replace H : (some (mn t129 1000000)) = some r := H
  have A4 := Aside0.mk A40
  clear A40
  obtain ⟨ji5, hji5⟩ : ∃ j_ : Int, (mn t129 1000000) = j_ := ⟨_, rfl⟩
  replace H : (some ji5) = some r := by first | (rw [hji5] at H; exact H) | (simp only [hji5] at H ⊢; exact H)
  (try rw [hji5] at A3)
  (try rw [hji5] at A4)
  (try (have hji5h : ji5 ≤ 1000000 := by (rw [← hji5]; unfold mn; (repeat' split) <;> omega)))
  (try (have hji5g : ji5 ≤ 64 := by omega))
  have hji5_ : (if 1000000 < t129 then 1000000 else t129) = ji5 := hji5
  obtain rfl := Option.some.inj H
  go_enter Try.func58, Try.ntmps58
  go_wp2_with (first | ((with_reducible refine gate_dst (N := 7) rfl ?_); refine Kd.R_lit (Kd.int .i64) _ 3 ?hg (N := 7) ?hd (xs := ([wrap64 (a1 + 1)] : List Int)) (inner := [.int .i64 (wrap64 (a1 + 1))]) (ok := fun _ => True) (okp := fun _ => True) ?hr ?hp (fun _ hk => hk) trivial (Below.refl _ _) (Nat.le_refl _) (by simp) ?_; (case hd => rfl); (case hg => rfl); (case hr => first | (go_simp; done) | (go_simp; rfl)); (case hp => exact (Reps.one (show Kd.M (Kd.int .i64) _ _ _ (wrap64 (a1 + 1)) [.int .i64 (wrap64 (a1 + 1))] from rfl) (Reps.none _ _))); intro v124 w6 ho7 hb hg_ hnew_; clear hg_ hnew_; (first | rw [← Ny123.out] at ho7 | (simp only [Int.reduceToNat] at ho7; rw [← Ny123.out] at ho7)); have n0_ := Aside0.mk (Kd.R_lower ho7 (below_size (by repeat (first | (with_reducible first | exact HB.out | apply below_alloc | apply pw_below_drewN | apply below_drew1) | exact HB.out)))); have n1_ := Aside0.mk (below_step (by repeat (first | (with_reducible first | exact HB.out | apply below_alloc | apply pw_below_drewN | apply below_drew1) | exact HB.out)) hb); clear HB; have HO125 := n0_; have HB := n1_; clear n0_ n1_; clear hb ho7; obtain ⟨Ao8, co8, eo8⟩ := Kd.R_slice HO125.out; subst eo8) | ((with_reducible refine gate_callee (f := 70) rfl ?_); refine goesL_ (some 9) rfl rfl Try.func70 (by kernel_rfl) rfl #[.slice Ao8 y123.length co8, .int .i64 a0] rfl (by (try simp only [List.map_toArray, List.map_cons, List.map_nil]); first | done | rfl | (simp only [List.length_drop, List.length_take]; rfl)) ?_; (with_reducible refine (slices_Repeat_int_int.calls _ _ y123 a0 t126 _ ?side1 ?side2 A3.out).mono ?_); (case side1 => repeat (first | exact (Kd.R_reads' HO125.out).2.2 | (with_reducible refine Kd.C_alloc ?_ _) | (with_reducible refine Kd.C_drewN ?_ _) | (with_reducible refine Kd.C_drew ?_))); (case side2 => exact (Kd.R_reads' HO125.out).2.1); rintro e w9 ⟨v127, rfl, ho0, hb⟩; refine ⟨_, rfl, ?_⟩; have n0_ := Aside0.mk (Kd.R_elder' (by (with_reducible repeat (first | apply Kd.R_alloc | apply Kd.R_drewN | apply Kd.R_drew)); exact HO125.out) (Kd.R_base ho0) hb); have n1_ := Aside0.mk (Kd.R_lower (Kd.R_new' ho0 (Kd.R_lt (by (with_reducible repeat (first | apply Kd.R_alloc | apply Kd.R_drewN | apply Kd.R_drew)); exact HO125.out))) (below_size (by repeat (first | (with_reducible first | exact HB.out | apply below_alloc | apply pw_below_drewN | apply below_drew1) | exact HB.out)))); have n2_ := Aside0.mk (below_step (by repeat (first | (with_reducible first | exact HB.out | apply below_alloc | apply pw_below_drewN | apply below_drew1) | exact HB.out)) hb); clear HO125; clear HB; have HO125 := n0_; have HO128 := n1_; have HB := n2_; clear n0_ n1_ n2_; (try clear hb); (try clear hb2); (try clear hk); (try clear hi); (try clear ho0); obtain ⟨Ao10, co10, eo10⟩ := Kd.R_slice HO128.out; subst eo10) | ((with_reducible refine gate_callee (f := 69) rfl ?_); refine goesL_ (some 10) rfl rfl Try.func69 (by kernel_rfl) rfl #[.int .i64 1000000, .slice Ao10 t126.length co10] rfl (by (try simp only [List.map_toArray, List.map_cons, List.map_nil]); first | done | rfl | (simp only [List.length_drop, List.length_take]; rfl)) ?_; (with_reducible refine (impl_product.calls k 1000000 _ _ t126 t129 _ ?side1 ?side2 A4.out).mono ?_); (case side1 => repeat (first | exact (Kd.R_reads' HO128.out).2.2 | (with_reducible refine Kd.C_alloc ?_ _) | (with_reducible refine Kd.C_drewN ?_ _) | (with_reducible refine Kd.C_drew ?_))); (case side2 => exact (Kd.R_reads' HO128.out).2.1); rintro e w' ⟨rfl, ⟨nd, rfl⟩⟩; refine ⟨_, rfl, ?_⟩))
  go_ret
  exact ⟨by first | rfl | (simp [errW_none, errW_some] <;> rfl) | (simp only [← hji5]; first | rfl | (simp [errW_none, errW_some] <;> rfl)) | (simp [*, errW_none, errW_some] <;> rfl), by repeat (first | (with_reducible first | exact HB.out | apply below_alloc | apply pw_below_drewN | apply below_drew1) | exact HB.out)⟩

end Go.Proofs.Ytipgbhjioffbnaa.Q
