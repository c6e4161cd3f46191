-- Laid by a program of this session (wip/pp.py) over the seat's translation, with its own texts for some functions.
import Derived.Test.YtnppcpjkjepfeaaM0
import Derived.Test.YtnppcpjkjepfeaaM5
namespace Go.Proofs.Ytnppcpjkjepfeaa.M
open Go.RowKit Go.Proofs.YtnppcpjkjepfeaaW.PrintWords Go.Proofs.YtnppcpjkjepfeaaW.PrintLast Go.Proofs.YtnppcpjkjepfeaaW.PrintMore
attribute [local go_sem] max2_int min2_int max_two min_two max_three min_three max_four min_four   -- for this text's walks alone
set_option linter.unusedVariables false
set_option linter.unusedSimpArgs false

/-! ### impl_AreSlabs: function 22 -/
def PredSlab (g : Nat) (lb : Array Value) (p : S51 → Bool) (w : World) : Prop :=
  ∀ (W : World) (x : S51), Below w.heap.size w W → Calls Try.prog g (#[.agg #[.int .i64 x.f0, .int .i64 x.f1]] ++ lb) W fun e w' => e = .returned (.bool (p x)) ∧ Below w.heap.size w w'
def idxSlab (p : S51 → Bool) (xs : List S51) : Int := if xs.any p then (xs.findIdx p : Int) else -1
theorem rdSlab_get (xs : List S51) (j : Nat) (h : j < xs.length) : rd_T51 xs (j : Int) = xs[j] := by
  simp [rd_T51, List.getD_eq_getElem?_getD, List.getElem?_eq_getElem h]
theorem idxSlab_hit (p : S51 → Bool) (xs : List S51) (k : Nat) (hk : k < xs.length) (h : p (rd_T51 xs k) = true) (hb : ∀ j : Nat, j < k → p (rd_T51 xs j) = false) : idxSlab p xs = k := by
  have h1 : xs.findIdx p = k := by
    rw [List.findIdx_eq hk]
    exact ⟨by rw [← rdSlab_get xs k hk]; exact h, fun j hj => by rw [← rdSlab_get xs j (by omega)]; exact hb j hj⟩
  have h2 : xs.any p = true := by
    rw [List.any_eq_true]
    exact ⟨xs[k], List.getElem_mem hk, by rw [← rdSlab_get xs k hk]; exact h⟩
  unfold idxSlab
  rw [if_pos h2, h1]
theorem idxSlab_miss (p : S51 → Bool) (xs : List S51) (hb : ∀ j : Nat, j < xs.length → p (rd_T51 xs j) = false) : idxSlab p xs = -1 := by
  have h2 : xs.any p = false := by
    rw [List.any_eq_false]
    intro x hx
    obtain ⟨j, hj, rfl⟩ := List.getElem_of_mem hx
    have := hb j hj
    rw [rdSlab_get xs j hj] at this
    simp [this]
  unfold idxSlab
  rw [if_neg (by simp [h2])]
set_option maxHeartbeats 2000000 in
theorem indexFunc_slab (g : Nat) (lb : Array Value) (p : S51 → Bool) (eg : ∀ args w, (callFunc g args).run Try.prog w = .ok (.enter g args) w) (A0 : Option Addr) (c0 : Nat) (xs : List S51) (w : World)
    (hp : PredSlab g lb p w) (hr : Kd.C k51 w A0 xs.length xs) :
    Calls Try.prog 71 #[.slice A0 xs.length c0, .func (.func g) #[] lb] w fun e w' => e = .returned (.int .i64 (idxSlab p xs)) ∧ Below w.heap.size w w' := by
  have hu := Try.underlying51
  have HR := Aside0.mk hr
  have HP := Aside0.mk hp
  have hm : xs.length ≤ 9223372036854775807 := hr.2.1
  clear hr hp
  go_enter Try.func71, Try.ntmps71
  go_wp2
  go_loopg [5, 8] xs.length (fun gg _ s8 wr => ∃ kk : Nat, kk ≤ xs.length ∧ xs.length - kk ≤ gg ∧ s8 = .int .i64 kk ∧ Aside0 (Below w.heap.size w wr) ∧ Aside0 (∀ j : Nat, j < kk → p (rd_T51 xs j) = false))
  case atStart => exact ⟨0, Nat.zero_le _, by omega, rfl, ⟨Below.refl _ w⟩, ⟨fun j hj => absurd hj (Nat.not_lt_zero _)⟩⟩
  case round =>
    obtain ⟨kk, hkk, hg, rfl, HB, HN⟩ := hrel
    by_cases hlt : kk < xs.length
    · have q1 : (kk : Int) < (xs.length : Int) := by omega
      have p1 : 0 ≤ (kk : Int) := by omega
      obtain ⟨ad, e1, hx0, hx1⟩ := at_T51 (Kd.C_below HR.out HB.out) (kk : Int) p1 q1
      cases e1
      simp only [Int.toNat_natCast] at hx0 hx1
      have hcall := HP.out wr (rd_T51 xs kk) HB.out
      replace p1 := eq_true p1
      replace q1 := eq_true q1
      cases hq : p (rd_T51 xs kk) with
      | true =>
        rw [hq] at hcall
        have HQ := Aside0.mk hq
        clear hq
        go_wp2_with (go_at_fn g; (with_reducible refine hcall.mono ?_); rintro e w' ⟨rfl, hb'⟩)
        go_ret
        exact ⟨by rw [idxSlab_hit p xs kk hlt HQ.out HN.out]; rfl, hb'⟩
      | false =>
        rw [hq] at hcall
        have HQ := Aside0.mk hq
        clear hq
        go_wp2_with (go_at_fn g; (with_reducible refine hcall.mono ?_); rintro e w' ⟨rfl, hb'⟩)
        go_roundg (xs.length - (kk + 1))
        case measure => omega
        case rel =>
          refine ⟨kk + 1, by omega, by omega, by go_num, ⟨hb'⟩, ⟨fun j hj => ?_⟩⟩
          by_cases e : j = kk
          · subst e
            exact HQ.out
          · exact HN.out j (by omega)
    · have q1 : ¬ (kk : Int) < (xs.length : Int) := by omega
      have e1 : kk = xs.length := by omega
      have HQ := Aside0.mk e1
      clear e1
      go_wp2
      go_ret
      exact ⟨by rw [idxSlab_miss p xs (fun j hj => HN.out j (by have := HQ.out; omega))]; rfl, HB.out⟩
theorem containsFunc_slab (g : Nat) (lb : Array Value) (p : S51 → Bool) (eg : ∀ args w, (callFunc g args).run Try.prog w = .ok (.enter g args) w) (A0 : Option Addr) (c0 : Nat) (xs : List S51) (w : World)
    (hp : PredSlab g lb p w) (hr : Kd.C k51 w A0 xs.length xs) :
    Calls Try.prog 51 #[.slice A0 xs.length c0, .func (.func g) #[] lb] w fun e w' => e = .returned (.bool (xs.any p)) ∧ Below w.heap.size w w' := by
  have HI := Aside0.mk (indexFunc_slab g lb p eg A0 c0 xs w hp hr)
  have hz : decide (idxSlab p xs ≥ 0) = xs.any p := by
    unfold idxSlab
    cases h : xs.any p <;> simp
  clear hp hr
  have HZ := Aside0.mk hz
  clear hz
  go_enter Try.func51, Try.ntmps51
  go_wp2_with (go_at_call 71; (with_reducible refine HI.out.mono ?_); rintro e w' ⟨rfl, hb⟩)
  go_ret
  exact ⟨by rw [← HZ.out]; rfl, hb⟩
def okSlab (s : S51) : Bool := decide (1 ≤ s.f0 ∧ s.f0 ≤ 1000) && decide (1 ≤ s.f1 ∧ s.f1 ≤ 1000)
set_option maxHeartbeats 2000000 in
theorem areSlabs_pred (x : S51) (W : World) :
    Calls Try.prog 52 #[.agg #[.int .i64 x.f0, .int .i64 x.f1]] W fun e w' => e = .returned (.bool (!okSlab x)) ∧ Below W.heap.size W w' := by
  obtain ⟨W1, hW1⟩ : ∃ W1, W1 = W.alloc (.cells #[.int .i64 x.f0, .int .i64 x.f1] 51) := ⟨_, rfl⟩
  have hb1 : Below W.heap.size W W1 := by rw [hW1]; exact (Below.refl _ W).alloc (Nat.le_refl _) _
  have hs1 : W1.heap.size = W.heap.size + 1 := by rw [hW1]; simp
  have hb2 : Below W.heap.size W (W1.alloc (.cells #[.int .i64 x.f0, .int .i64 x.f1] 3)) := hb1.alloc hb1.size _
  have hr : Kd.R (Kd.int .i64) 3 (W1.alloc (.cells #[.int .i64 x.f0, .int .i64 x.f1] 3)) W.heap.size (fun _ => True) (.slice (some ⟨W1.heap.size, 0, none⟩) 2 2) [x.f0, x.f1] :=
    Kd.R_of_own ⟨rfl, .inr ⟨W1.heap.size, 2, #[.int .i64 x.f0, .int .i64 x.f1], rfl, hb1.size, blk_new _ _, Nat.le_refl _, by unfold maxLen; omega, rfl, rfl⟩⟩ (fun _ _ => trivial)
  obtain ⟨A, c, e1, e2, hc⟩ := Kd.R_reads hr
  cases e1
  have hw := impl_areWithin.calls _ 2 [x.f0, x.f1] 1 1000 (okSlab x) _ hc (by simp) (by unfold impl_areWithin.f okSlab; simp)
  rw [hs1, show ([x.f0, x.f1] : List Int).length = 2 from rfl] at hw
  have HW := Aside0.mk hw
  have HB := Aside0.mk hb2
  have HW1 := Aside0.mk hW1
  clear hr hc hw hb1 hb2 e2 hs1 hW1
  have ew := HW1.out
  subst ew
  go_enter Try.func52, Try.ntmps52
  go_wp2_with (go_at_call 48; (with_reducible refine HW.out.mono ?_); rintro e w' ⟨rfl, hb⟩)
  go_ret
  exact ⟨rfl, HB.out.trans (hb.mono HB.out.size)⟩
def impl_AreSlabs.f (l0 : List S51) : Option Bool := some (decide (1 ≤ (l0.length : Int) ∧ (l0.length : Int) ≤ 7) && !l0.any fun s => !okSlab s)
set_option maxHeartbeats 2000000 in
theorem impl_AreSlabs.calls (A0 : Option Addr) (c0 : Nat) (l0 : List S51) (r : Bool) (w : World) (hr0 : Kd.C k51 w A0 l0.length l0) (hc0 : l0.length ≤ c0) (h : impl_AreSlabs.f l0 = some r) :
    Calls Try.prog 22 #[.slice A0 l0.length c0] w fun e w' => e = .returned (.bool r) ∧ Below w.heap.size w w' := by
  unfold impl_AreSlabs.f at h
  obtain rfl := Option.some.inj h
  clear h
  have HC := Aside0.mk (fun nd => containsFunc_slab 52 #[] (fun s => !okSlab s) (enters_of Try.func52 (by kernel_rfl) rfl) A0 c0 l0 (w.drewN nd)
    (fun W x hW => by
      refine (areSlabs_pred x W).mono ?_
      rintro e w' ⟨rfl, hb⟩
      exact ⟨rfl, hW.trans (hb.mono hW.size)⟩) (Kd.C_below hr0 (pw_below_drewN (Below.refl _ _) nd)))
  have hcap := hr0.2.1
  clear hr0
  by_cases c1 : 1 ≤ (l0.length : Int) ∧ (l0.length : Int) ≤ 7
  · have hv : impl_within.f (l0.length : Int) 1 7 = some true := by unfold impl_within.f; rw [if_pos c1.1, decide_eq_true c1.2]
    have HV := Aside0.mk hv
    have HQ := Aside0.mk (show (decide (1 ≤ (l0.length : Int) ∧ (l0.length : Int) ≤ 7)) = true from decide_eq_true c1)
    clear hv c1
    go_enter Try.func22, Try.ntmps22
    go_wp2_with (first | (go_at_call 47; (with_reducible refine (impl_within.calls _ _ _ true _ HV.out).mono ?_); rintro e w' ⟨rfl, ⟨nd, rfl⟩⟩) | (go_at_call 51; (with_reducible refine (HC.out _).mono ?_); rintro e w' ⟨rfl, hb⟩))
    go_ret
    exact ⟨by rw [HQ.out]; rfl, (pw_below_drewN (Below.refl _ _) _).trans hb⟩
  · have hv : impl_within.f (l0.length : Int) 1 7 = some false := by
      unfold impl_within.f
      by_cases c2 : 1 ≤ (l0.length : Int)
      · rw [if_pos c2, decide_eq_false (fun c3 => c1 ⟨c2, c3⟩)]
      · rw [if_neg c2]
    have HV := Aside0.mk hv
    have HQ := Aside0.mk (show (decide (1 ≤ (l0.length : Int) ∧ (l0.length : Int) ≤ 7)) = false from decide_eq_false c1)
    clear hv c1
    go_enter Try.func22, Try.ntmps22
    go_wp2_with (go_at_call 47; (with_reducible refine (impl_within.calls _ _ _ false _ HV.out).mono ?_); rintro e w' ⟨rfl, ⟨nd, rfl⟩⟩)
    go_ret
    exact ⟨by rw [HQ.out]; rfl, pw_below_drewN (Below.refl _ _) _⟩

/-! ### slices_Index_int_int: function 90 -/
def slices_Index_int_int.l0 : Nat → List Int → Int → Int → Int → Option (Int)
  | 0, _, _, _, _ => none
  | k + 1, x0, x1, x7, x8 => if x8 < x7 then (if 0 ≤ x8 then (if x8 < (x0.length : Int) then (if x1 = (rd x0 x8) then (some x8) else (slices_Index_int_int.l0 k x0 x1 x7 (wrap64 (x8 + 1)))) else (none)) else (none)) else (some (-1))
def slices_Index_int_int.f (k : Nat) (l0 : List Int) (a1 : Int) : Option (Int) := slices_Index_int_int.l0 k l0 a1 (l0.length : Int) 0
theorem slices_Index_int_int.mono_l : ∀ k, (∀ y0 y1 y2 y3, LeO (slices_Index_int_int.l0 k y0 y1 y2 y3) (slices_Index_int_int.l0 (k + 1) y0 y1 y2 y3))
  | 0 => fun _ _ _ _ r h => by simp [slices_Index_int_int.l0] at h
  | k + 1 => by
    have ih0 := slices_Index_int_int.mono_l k
    · intro y0 y1 y2 y3
      unfold slices_Index_int_int.l0
      repeat' first
      | (with_reducible exact ih0 _ _ _ _)
      | (with_reducible exact LeO.refl _)
      | (with_reducible exact LeO.none _)
      | (with_reducible refine LeO.ite ?_ ?_)
      | (with_reducible refine LeO.bind ?_ (fun _ => ?_))
      | exact ih0 _ _ _ _
      | exact LeO.none _
      | refine LeO.ite ?_ ?_
      | refine LeO.bind ?_ (fun _ => ?_)
theorem slices_Index_int_int.mono : ∀ a0 a1 k, LeO (slices_Index_int_int.f k a0 a1) (slices_Index_int_int.f (k + 1) a0 a1) := by
  intro a0 a1 k
  have ih0 := slices_Index_int_int.mono_l k
  unfold slices_Index_int_int.f
  repeat' first
      | (with_reducible exact ih0 _ _ _ _)
      | (with_reducible exact LeO.refl _)
      | (with_reducible exact LeO.none _)
      | (with_reducible refine LeO.ite ?_ ?_)
      | (with_reducible refine LeO.bind ?_ (fun _ => ?_))
      | exact ih0 _ _ _ _
      | exact LeO.none _
      | refine LeO.ite ?_ ?_
      | refine LeO.bind ?_ (fun _ => ?_)
set_option maxHeartbeats 8000000 in
set_option maxRecDepth 100000 in
theorem slices_Index_int_int.calls (k : Nat) (A0 : Option Addr) (c0 : Nat) (l0 : List Int) (a1 : Int) (r : Int) (w : World) (hr0 : Kd.C (Kd.int .i64) w A0 l0.length l0) (hc0 : l0.length ≤ c0) (h : slices_Index_int_int.f k l0 a1 = some r) :
    Calls Try.prog 90 #[.slice A0 l0.length c0, .int .i64 a1] w fun e w' => e = .returned (.int .i64 r) ∧ Drawn0 w w' := by
  have HR0 := Aside0.mk hr0
  have HC0 := Aside0.mk hc0
  clear hr0 hc0
  have H : (slices_Index_int_int.l0 k l0 a1 (l0.length : Int) 0) = some r := h
  clear h
  have H' := Aside0.mk H
  clear H
  go_enter Try.func90, Try.ntmps90
  go_wp2
  go_loopg [8] k (fun kq v8 w' => ∃ (x8_1 : Int), v8 = .int .i64 x8_1 ∧ Aside0 (slices_Index_int_int.l0 kq l0 a1 (l0.length : Int) x8_1 = some r) ∧ Aside0 (kq ≤ k) ∧ Drawn0 w w')
  case atStart => exact ⟨(0), (by first | rfl | (simp; done) | (simp [*]; done)), H', ⟨Nat.le_refl _⟩, by repeat (first | exact Drawn0.refl _ | apply Drawn0.step)⟩
  case round =>
    clear H'
    try clear p2
    obtain ⟨x8_1, rfl, HA, HK1, ⟨m1, rfl⟩⟩ := hrel
    cases gk with
    | zero => exact absurd HA.out (by simp [slices_Index_int_int.l0])
    | succ k1 =>
      have H := HA.out
      clear HA
      simp only [slices_Index_int_int.l0] at H
      by_cases c3 : x8_1 < (l0.length : Int)
      · rw [if_pos c3] at H
        have c3b0 : decide (x8_1 < (l0.length : Int)) = true := decide_eq_true c3
        clear c3
        by_cases c4 : 0 ≤ x8_1
        · rw [if_pos c4] at H
          have c4b0 : decide (0 ≤ x8_1) = true := decide_eq_true c4
          clear c4
          by_cases c5 : x8_1 < (l0.length : Int)
          · rw [if_pos c5] at H
            have c5b0 : decide (x8_1 < (l0.length : Int)) = true := decide_eq_true c5
            clear c5
            by_cases c6 : a1 = (rd l0 x8_1)
            · rw [if_pos c6] at H
              have c6b0 : (a1 == (rd l0 x8_1)) = true := beq_iff_eq.mpr c6
              have c6b1 : (a1 != (rd l0 x8_1)) = false := bne_eq_false_iff_eq.mpr c6
              clear c6
              obtain rfl := Option.some.inj H
              have p139 : 0 ≤ (x8_1 : Int) := of_decide_eq_true (by first | (with_reducible assumption) | assumption)
              have q139 : x8_1 < (l0.length : Int) := of_decide_eq_true (by first | (with_reducible assumption) | assumption)
              obtain ⟨ad139, e139, hx139_0⟩ := Kd.at_int HR0.out x8_1 p139 q139
              cases e139
              replace p139 := eq_true p139
              replace q139 := eq_true q139
              go_wp2
              go_ret
              exact ⟨by first | rfl | (simp; done) | (simp [*]; done), by repeat (first | exact Drawn0.refl _ | apply Drawn0.step)⟩
            · rw [if_neg c6] at H
              have c6b0 : (a1 == (rd l0 x8_1)) = false := beq_eq_false_iff_ne.mpr c6
              have c6b1 : (a1 != (rd l0 x8_1)) = true := bne_iff_ne.mpr c6
              have H' := Aside0.mk H
              clear H
              have p139 : 0 ≤ (x8_1 : Int) := of_decide_eq_true (by first | (with_reducible assumption) | assumption)
              have q139 : x8_1 < (l0.length : Int) := of_decide_eq_true (by first | (with_reducible assumption) | assumption)
              obtain ⟨ad139, e139, hx139_0⟩ := Kd.at_int HR0.out x8_1 p139 q139
              cases e139
              replace p139 := eq_true p139
              replace q139 := eq_true q139
              go_wp2
              go_roundg k1
              case measure => have := HK1.out; omega
              case rel => exact ⟨(wrap64 (x8_1 + 1)), (by first | rfl | (simp; done) | (simp [*]; done)), H', ⟨by have := HK1.out; omega⟩, by repeat (first | exact Drawn0.refl _ | apply Drawn0.step)⟩
          · rw [if_neg c5] at H
            exact absurd H (by simp)
        · rw [if_neg c4] at H
          exact absurd H (by simp)
      · rw [if_neg c3] at H
        have c3b0 : decide (x8_1 < (l0.length : Int)) = false := decide_eq_false c3
        clear c3
        obtain rfl := Option.some.inj H
        go_wp2
        go_ret
        exact ⟨by first | rfl | (simp; done) | (simp [*]; done), by repeat (first | exact Drawn0.refl _ | apply Drawn0.step)⟩

/-! ### slices_Contains_int_int: function 83 -/
def slices_Contains_int_int.f (k : Nat) (l0 : List Int) (a1 : Int) : Option (Bool) := (slices_Index_int_int.f k l0 a1).bind fun t140 => (some (decide (t140 ≥ 0)))
theorem slices_Contains_int_int.mono : ∀ a0 a1 k, LeO (slices_Contains_int_int.f k a0 a1) (slices_Contains_int_int.f (k + 1) a0 a1) := by
  intro a0 a1 k
  unfold slices_Contains_int_int.f
  repeat' first
      | (with_reducible exact slices_Index_int_int.mono _ _ _)
      | (with_reducible exact LeO.refl _)
      | (with_reducible exact LeO.none _)
      | (with_reducible refine LeO.ite ?_ ?_)
      | (with_reducible refine LeO.bind ?_ (fun _ => ?_))
      | exact slices_Index_int_int.mono _ _ _
      | exact LeO.none _
      | refine LeO.ite ?_ ?_
      | refine LeO.bind ?_ (fun _ => ?_)
set_option maxHeartbeats 8000000 in
set_option maxRecDepth 100000 in
theorem slices_Contains_int_int.calls (k : Nat) (A0 : Option Addr) (c0 : Nat) (l0 : List Int) (a1 : Int) (r : Bool) (w : World) (hr0 : Kd.C (Kd.int .i64) w A0 l0.length l0) (hc0 : l0.length ≤ c0) (h : slices_Contains_int_int.f k l0 a1 = some r) :
    Calls Try.prog 83 #[.slice A0 l0.length c0, .int .i64 a1] w fun e w' => e = .returned (.bool r) ∧ Drawn0 w w' := by
  have HR0 := Aside0.mk hr0
  have HC0 := Aside0.mk hc0
  clear hr0 hc0
  have H : ((slices_Index_int_int.f k l0 a1).bind fun t140 => (some (decide (t140 ≥ 0)))) = some r := h
  clear h
  replace H := Option.bind_eq_some_iff.mp H
  obtain ⟨t140, A30, H⟩ := H
  replace H : (some (decide (t140 ≥ 0))) = some r := H
  have A3 := Aside0.mk A30
  clear A30
  obtain rfl := Option.some.inj H
  go_enter Try.func83, Try.ntmps83
  go_wp2_with (first | ((with_reducible refine gate_callee (f := 90) rfl ?_); refine goesL_ (some 7) rfl rfl Try.func90 (by kernel_rfl) rfl #[.slice A0 l0.length c0, .int .i64 a1] rfl (by (try simp only [List.map_toArray, List.map_cons, List.map_nil]); first | done | rfl | (simp only [List.length_drop, List.length_take]; rfl)) ?_; (with_reducible refine (slices_Index_int_int.calls k _ _ l0 a1 t140 _ ?side1 ?side2 A3.out).mono ?_); (case side1 => repeat (first | exact HR0.out | (with_reducible refine Kd.C_alloc ?_ _) | (with_reducible refine Kd.C_drewN ?_ _) | (with_reducible refine Kd.C_drew ?_))); (case side2 => exact HC0.out); rintro e w' ⟨rfl, ⟨nd, rfl⟩⟩; refine ⟨_, rfl, ?_⟩))
  go_ret
  exact ⟨by first | rfl | (simp; done) | (simp [*]; done), by repeat (first | exact Drawn0.refl _ | apply Drawn0.step)⟩

end Go.Proofs.Ytnppcpjkjepfeaa.M
