-- Laid by a program of this session (wip/pp.py) over the seat's translation, with its own texts for some functions.
import Derived.Test.YtnppcpjkjepfeaaG0
namespace Go.Proofs.Ytnppcpjkjepfeaa.G
open Go.RowKit Go.Proofs.YtnppcpjkjepfeaaW.PrintWords Go.Proofs.YtnppcpjkjepfeaaW.PrintLast Go.Proofs.YtnppcpjkjepfeaaW.PrintMore
attribute [local go_sem] max2_int min2_int max_two min_two max_three min_three max_four min_four   -- for this text's walks alone
set_option linter.unusedVariables false
set_option linter.unusedSimpArgs false

/-! ### impl_within: function 47 -/
def impl_within.f (a0 : Int) (a1 : Int) (a2 : Int) : Option (Bool) := if a1 ≤ a0 then (some (decide (a0 ≤ a2))) else (some false)
set_option maxHeartbeats 8000000 in
set_option maxRecDepth 100000 in
theorem impl_within.calls (a0 : Int) (a1 : Int) (a2 : Int) (r : Bool) (w : World) (h : impl_within.f a0 a1 a2 = some r) :
    Calls Try.prog 47 #[.int .i64 a0, .int .i64 a1, .int .i64 a2] w fun e w' => e = .returned (.bool r) ∧ Drawn0 w w' := by
  have H : (if a1 ≤ a0 then (some (decide (a0 ≤ a2))) else (some false)) = some r := h
  clear h
  by_cases c4 : a1 ≤ a0
  · rw [if_pos c4] at H
    have c4b0 : decide (a1 ≤ a0) = true := decide_eq_true c4
    clear c4
    obtain rfl := Option.some.inj H
    go_enter Try.func47, Try.ntmps47
    go_wp2
    go_ret
    exact ⟨by first | rfl | (simp; done) | (simp [*]; done), by repeat (first | exact Drawn0.refl _ | apply Drawn0.step)⟩
  · rw [if_neg c4] at H
    have c4b0 : decide (a1 ≤ a0) = false := decide_eq_false c4
    clear c4
    obtain rfl := Option.some.inj H
    go_enter Try.func47, Try.ntmps47
    go_wp2
    go_ret
    exact ⟨by first | rfl | (simp; done) | (simp [*]; done), by repeat (first | exact Drawn0.refl _ | apply Drawn0.step)⟩

/-! ### impl_areWithin: function 48 -/
/-- What is asked of a predicate on whole numbers: in every world in which what lay in w lies unturned, the call answers p. -/
def PredInt (g : Nat) (lb : Array Value) (p : Int → Bool) (w : World) : Prop :=
  ∀ (W : World) (x : Int), Below w.heap.size w W → Calls Try.prog g (#[.int .i64 x] ++ lb) W fun e w' => e = .returned (.bool (p x)) ∧ Below w.heap.size w w'
def idxOf (p : Int → Bool) (xs : List Int) : Int := if xs.any p then (xs.findIdx p : Int) else -1
theorem idxOf_hit (p : Int → Bool) (xs : List Int) (k : Nat) (hk : k < xs.length) (h : p (rd xs k) = true) (hb : ∀ j : Nat, j < k → p (rd xs j) = false) : idxOf p xs = k := by
  have hg : ∀ j (hj : j < xs.length), rd xs (j : Int) = xs[j] := fun j hj => by simp [rd, List.getD_eq_getElem?_getD, List.getElem?_eq_getElem hj]
  have h1 : xs.findIdx p = k := by
    rw [List.findIdx_eq hk]
    exact ⟨by rw [← hg k hk]; exact h, fun j hj => by rw [← hg j (by omega)]; exact hb j hj⟩
  have h2 : xs.any p = true := by
    rw [List.any_eq_true]
    exact ⟨xs[k], List.getElem_mem hk, by rw [← hg k hk]; exact h⟩
  unfold idxOf
  rw [if_pos h2, h1]
theorem idxOf_miss (p : Int → Bool) (xs : List Int) (hb : ∀ j : Nat, j < xs.length → p (rd xs j) = false) : xs.any p = false ∧ idxOf p xs = -1 := by
  have h2 : xs.any p = false := by
    rw [List.any_eq_false]
    intro x hx
    obtain ⟨j, hj, rfl⟩ := List.getElem_of_mem hx
    have := hb j hj
    simp [rd, List.getD_eq_getElem?_getD, List.getElem?_eq_getElem hj] at this
    simp [this]
  exact ⟨h2, by unfold idxOf; rw [if_neg (by simp [h2])]⟩
set_option maxHeartbeats 2000000 in
theorem indexFunc_int (g : Nat) (lb : Array Value) (p : Int → Bool) (eg : ∀ args w, (callFunc g args).run Try.prog w = .ok (.enter g args) w) (A0 : Option Addr) (c0 : Nat) (xs : List Int) (w : World)
    (hp : PredInt g lb p w) (hr : Kd.C (Kd.int .i64) w A0 xs.length xs) :
    Calls Try.prog 87 #[.slice A0 xs.length c0, .func (.func g) #[] lb] w fun e w' => e = .returned (.int .i64 (idxOf p xs)) ∧ Below w.heap.size w w' := by
  have HR := Aside0.mk hr
  have HP := Aside0.mk hp
  have hm : xs.length ≤ 9223372036854775807 := hr.2.1
  clear hr hp
  go_enter Try.func87, Try.ntmps87
  go_wp2
  go_loopg [5, 8] xs.length (fun gg _ s8 wr => ∃ kk : Nat, kk ≤ xs.length ∧ xs.length - kk ≤ gg ∧ s8 = .int .i64 kk ∧ Aside0 (Below w.heap.size w wr) ∧ Aside0 (∀ j : Nat, j < kk → p (rd xs j) = false))
  case atStart => exact ⟨0, Nat.zero_le _, by omega, rfl, ⟨Below.refl _ w⟩, ⟨fun j hj => absurd hj (Nat.not_lt_zero _)⟩⟩
  case round =>
    obtain ⟨kk, hkk, hg, rfl, HB, HN⟩ := hrel
    by_cases hlt : kk < xs.length
    · have q1 : (kk : Int) < (xs.length : Int) := by omega
      have p1 : 0 ≤ (kk : Int) := by omega
      obtain ⟨ad, e1, hx⟩ := Kd.at_int (Kd.C_below HR.out HB.out) (kk : Int) p1 q1
      cases e1
      simp only [Int.toNat_natCast] at hx
      have hcall := HP.out wr (rd xs kk) HB.out
      replace p1 := eq_true p1
      replace q1 := eq_true q1
      have HY := Aside0.mk (show rd xs (kk : Int) = rd xs (kk : Int) from rfl)
      cases hq : p (rd xs kk) with
      | true =>
        rw [hq] at hcall
        have HQ := Aside0.mk hq
        clear hq
        go_wp2_with (go_at_fn g; (with_reducible refine hcall.mono ?_); rintro e w' ⟨rfl, hb'⟩)
        go_ret
        exact ⟨by rw [idxOf_hit p xs kk hlt HQ.out HN.out]; rfl, hb'⟩
      | false =>
        rw [hq] at hcall
        have HQ := Aside0.mk hq
        clear hq
        go_wp2_with (go_at_fn g; (with_reducible refine hcall.mono ?_); rintro e w' ⟨rfl, hb'⟩)
        go_roundg (xs.length - (kk + 1))
        case measure => omega
        case rel =>
          refine ⟨kk + 1, by omega, by omega, by go_num, ⟨hb'⟩, ⟨fun j hj => ?_⟩⟩
          by_cases e : j = kk
          · subst e
            exact HQ.out
          · exact HN.out j (by omega)
    · have q1 : ¬ (kk : Int) < (xs.length : Int) := by omega
      have e1 : kk = xs.length := by omega
      have HQ := Aside0.mk e1
      clear e1
      go_wp2
      go_ret
      exact ⟨by rw [(idxOf_miss p xs (fun j hj => HN.out j (by have := HQ.out; omega))).2]; rfl, HB.out⟩
theorem containsFunc_int (g : Nat) (lb : Array Value) (p : Int → Bool) (eg : ∀ args w, (callFunc g args).run Try.prog w = .ok (.enter g args) w) (A0 : Option Addr) (c0 : Nat) (xs : List Int) (w : World)
    (hp : PredInt g lb p w) (hr : Kd.C (Kd.int .i64) w A0 xs.length xs) :
    Calls Try.prog 69 #[.slice A0 xs.length c0, .func (.func g) #[] lb] w fun e w' => e = .returned (.bool (xs.any p)) ∧ Below w.heap.size w w' := by
  have HI := Aside0.mk (indexFunc_int g lb p eg A0 c0 xs w hp hr)
  have hz : decide (idxOf p xs ≥ 0) = xs.any p := by
    unfold idxOf
    cases h : xs.any p <;> simp
  clear hp hr
  have HZ := Aside0.mk hz
  clear hz
  go_enter Try.func69, Try.ntmps69
  go_wp2_with (go_at_call 87; (with_reducible refine HI.out.mono ?_); rintro e w' ⟨rfl, hb⟩)
  go_ret
  exact ⟨by rw [← HZ.out]; rfl, hb⟩
theorem areWithin_pred (lo hi x : Int) (b1 b2 : Nat) (W : World) (h1 : W.cell? ⟨b1, 0, none⟩ = some (.int .i64 lo)) (h2 : W.cell? ⟨b2, 0, none⟩ = some (.int .i64 hi)) :
    Calls Try.prog 70 #[.int .i64 x, .pointer (some ⟨b1, 0, none⟩), .pointer (some ⟨b2, 0, none⟩)] W fun e w' => e = .returned (.bool (!decide (lo ≤ x ∧ x ≤ hi))) ∧ W = w' := by
  by_cases c1 : lo ≤ x
  · by_cases c2 : x ≤ hi
    · go_enter Try.func70, Try.ntmps70
      go_wp2
      go_ret
      exact ⟨by simp [c1, c2], rfl⟩
    · go_enter Try.func70, Try.ntmps70
      go_wp2
      go_ret
      exact ⟨by simp [c1, c2], rfl⟩
  · go_enter Try.func70, Try.ntmps70
    go_wp2
    go_ret
    exact ⟨by simp [c1], rfl⟩
def impl_areWithin.f (l0 : List Int) (a1 : Int) (a2 : Int) : Option (Bool) := some (!l0.any fun x => !decide (a1 ≤ x ∧ x ≤ a2))
set_option maxHeartbeats 2000000 in
theorem impl_areWithin.calls (A0 : Option Addr) (c0 : Nat) (l0 : List Int) (a1 : Int) (a2 : Int) (r : Bool) (w : World) (hr0 : Kd.C (Kd.int .i64) w A0 l0.length l0) (hc0 : l0.length ≤ c0) (h : impl_areWithin.f l0 a1 a2 = some r) :
    Calls Try.prog 48 #[.slice A0 l0.length c0, .int .i64 a1, .int .i64 a2] w fun e w' => e = .returned (.bool r) ∧ Below w.heap.size w w' := by
  obtain ⟨q, hq⟩ : ∃ q, q = l0.any fun x => !decide (a1 ≤ x ∧ x ≤ a2) := ⟨_, rfl⟩
  unfold impl_areWithin.f at h
  rw [← hq] at h
  obtain rfl := Option.some.inj h
  have hb0 : Below w.heap.size w ((w.alloc (.cells #[.int .i64 a1] 3)).alloc (.cells #[.int .i64 a2] 3)) := ((Below.refl _ w).alloc (Nat.le_refl _) _).alloc (by simp) _
  have hc1 : ((w.alloc (.cells #[.int .i64 a1] 3)).alloc (.cells #[.int .i64 a2] 3)).cell? ⟨w.heap.size, 0, none⟩ = some (.int .i64 a1) := by simp
  have hc2 : ((w.alloc (.cells #[.int .i64 a1] 3)).alloc (.cells #[.int .i64 a2] 3)).cell? ⟨w.heap.size + 1, 0, none⟩ = some (.int .i64 a2) := by simp
  have hs : ((w.alloc (.cells #[.int .i64 a1] 3)).alloc (.cells #[.int .i64 a2] 3)).heap.size = w.heap.size + 2 := by simp
  have HC := Aside0.mk (containsFunc_int 70 #[.pointer (some ⟨w.heap.size, 0, none⟩), .pointer (some ⟨w.heap.size + 1, 0, none⟩)] (fun x => !decide (a1 ≤ x ∧ x ≤ a2)) (enters_of Try.func70 (by kernel_rfl) rfl) A0 c0 l0 _
    (fun W x hW => by
      refine (areWithin_pred a1 a2 x _ _ W ((hW.cell (p := ⟨w.heap.size, 0, none⟩) (by rw [hs]; show w.heap.size < _; omega)).trans hc1) ((hW.cell (p := ⟨w.heap.size + 1, 0, none⟩) (by rw [hs]; show w.heap.size + 1 < _; omega)).trans hc2)).mono ?_
      rintro e w' ⟨rfl, rfl⟩
      exact ⟨rfl, hW⟩) (Kd.C_below hr0 hb0))
  rw [← hq] at HC
  have HB := Aside0.mk hb0
  clear hr0 hc1 hc2 hs hb0 h hq
  go_enter Try.func48, Try.ntmps48
  go_wp2_with (go_at_call 69; (with_reducible refine HC.out.mono ?_); rintro e w' ⟨rfl, hb⟩)
  go_ret
  exact ⟨rfl, HB.out.trans (hb.mono (by simp; omega))⟩

/-! ### impl_AreWeights: function 17 -/
def impl_AreWeights.f (l0 : List Int) : Option (Bool) := (impl_within.f (l0.length : Int) 1 12).bind fun t126 => (if t126 = true then ((impl_areWithin.f l0 1 1000).bind fun t127 => (some t127)) else (some false))
set_option maxHeartbeats 8000000 in
set_option maxRecDepth 100000 in
theorem impl_AreWeights.calls (A0 : Option Addr) (c0 : Nat) (l0 : List Int) (r : Bool) (w : World) (hr0 : Kd.C (Kd.int .i64) w A0 l0.length l0) (hc0 : l0.length ≤ c0) (h : impl_AreWeights.f l0 = some r) :
    Calls Try.prog 17 #[.slice A0 l0.length c0] w fun e w' => e = .returned (.bool r) ∧ Below w.heap.size w w' := by
  have HR0 := Aside0.mk hr0
  have HC0 := Aside0.mk hc0
  clear hr0 hc0
  have HB := Aside0.mk (Below.refl w.heap.size w)
  have H : ((impl_within.f (l0.length : Int) 1 12).bind fun t126 => (if t126 = true then ((impl_areWithin.f l0 1 1000).bind fun t127 => (some t127)) else (some false))) = some r := h
  clear h
  replace H := Option.bind_eq_some_iff.mp H
  obtain ⟨t126, A20, H⟩ := H
  replace H : (if t126 = true then ((impl_areWithin.f l0 1 1000).bind fun t127 => (some t127)) else (some false)) = some r := H
  have A2 := Aside0.mk A20
  clear A20
  by_cases c3 : t126 = true
  · subst c3
    have H1 : ((impl_areWithin.f l0 1 1000).bind fun t127 => (some t127)) = some r := by rw [if_pos rfl] at H; exact H
    clear H
    have H := H1
    clear H1
    replace H := Option.bind_eq_some_iff.mp H
    obtain ⟨t127, A40, H⟩ := H
    replace H : (some t127) = some r := H
    have A4 := Aside0.mk A40
    clear A40
    obtain rfl := Option.some.inj H
    go_enter Try.func17, Try.ntmps17
    go_wp2_with (first | ((with_reducible refine gate_callee (f := 47) rfl ?_); refine goesL_ (some 5) rfl rfl Try.func47 (by kernel_rfl) rfl #[.int .i64 (l0.length : Int), .int .i64 1, .int .i64 12] rfl (by (try simp only [List.map_toArray, List.map_cons, List.map_nil]); first | done | rfl | (simp only [List.length_drop, List.length_take]; rfl)) ?_; (with_reducible refine (impl_within.calls (l0.length : Int) 1 12 true _ A2.out).mono ?_); rintro e w' ⟨rfl, ⟨nd, rfl⟩⟩; refine ⟨_, rfl, ?_⟩) | (go_at_call 48; (with_reducible refine (impl_areWithin.calls _ _ l0 1 1000 t127 _ ?side1 ?side2 A4.out).mono ?_); (case side1 => repeat (first | exact HR0.out | (with_reducible refine Kd.C_alloc ?_ _) | (with_reducible refine Kd.C_drewN ?_ _) | (with_reducible refine Kd.C_drew ?_))); (case side2 => exact HC0.out); rintro e w5 ⟨rfl, hb⟩; have n0_ := Aside0.mk (below_step (by repeat (first | (with_reducible first | exact HB.out | apply below_alloc | apply pw_below_drewN | apply below_drew1) | exact HB.out)) hb); clear HB; have HB := n0_; clear n0_; (try clear hb); (try clear hb2); (try clear hk); (try clear hi)))
    go_ret
    exact ⟨by first | rfl | (simp [errW_none, errW_some] <;> rfl) | (simp [*, errW_none, errW_some] <;> rfl), by repeat (first | (with_reducible first | exact HB.out | apply below_alloc | apply pw_below_drewN | apply below_drew1) | exact HB.out)⟩
  · replace c3 := Bool.eq_false_iff.mpr c3
    subst c3
    have H1 : (some false) = some r := by rw [if_neg (show ¬ (false = true) by decide)] at H; exact H
    clear H
    have H := H1
    clear H1
    obtain rfl := Option.some.inj H
    go_enter Try.func17, Try.ntmps17
    go_wp2_with (first | ((with_reducible refine gate_callee (f := 47) rfl ?_); refine goesL_ (some 5) rfl rfl Try.func47 (by kernel_rfl) rfl #[.int .i64 (l0.length : Int), .int .i64 1, .int .i64 12] rfl (by (try simp only [List.map_toArray, List.map_cons, List.map_nil]); first | done | rfl | (simp only [List.length_drop, List.length_take]; rfl)) ?_; (with_reducible refine (impl_within.calls (l0.length : Int) 1 12 false _ A2.out).mono ?_); rintro e w' ⟨rfl, ⟨nd, rfl⟩⟩; refine ⟨_, rfl, ?_⟩))
    go_ret
    exact ⟨by first | rfl | (simp [errW_none, errW_some] <;> rfl) | (simp [*, errW_none, errW_some] <;> rfl), by repeat (first | (with_reducible first | exact HB.out | apply below_alloc | apply pw_below_drewN | apply below_drew1) | exact HB.out)⟩

/-! ### impl_GreedyTake: function 25 -/
def greedyL (xs : List Int) : Nat → Int → Int → Int → List Int → List Int
  | 0, _, _, _, o => o
  | n + 1, f, e, t, o => if f < e then (if rd xs f ≥ rd xs (wrap64 (e - 1)) then greedyL xs n (wrap64 (f + 1)) e (wrap64 (1 - t)) (o.set t.toNat (wrap64 (rd o t + rd xs f))) else greedyL xs n f (wrap64 (e - 1)) (wrap64 (1 - t)) (o.set t.toNat (wrap64 (rd o t + rd xs (wrap64 (e - 1)))))) else o
def impl_GreedyTake.f (l0 : List Int) : Option (Int × Int × Bool) :=
  (impl_AreWeights.f l0).bind fun t => if t = true then some (rd (greedyL l0 (l0.length + 1) 0 (l0.length : Int) 0 [0, 0]) 0, rd (greedyL l0 (l0.length + 1) 0 (l0.length : Int) 0 [0, 0]) 1, true) else some (0, 0, false)
set_option maxHeartbeats 2000000 in
theorem impl_GreedyTake.calls (A0 : Option Addr) (c0 : Nat) (l0 : List Int) (r1 : Int) (r2 : Int) (r3 : Bool) (w : World) (hr0 : Kd.C (Kd.int .i64) w A0 l0.length l0) (hc0 : l0.length ≤ c0) (h : impl_GreedyTake.f l0 = some (r1, r2, r3)) :
    Calls Try.prog 25 #[.slice A0 l0.length c0] w fun e w' => e = .returned (.tuple #[.int .i64 r1, .int .i64 r2, .bool r3]) ∧ Below w.heap.size w w' := by
  unfold impl_GreedyTake.f at h
  obtain ⟨t, ht, hx⟩ := Option.bind_eq_some_iff.mp h
  clear h
  have h := hx
  clear hx
  have HC := Aside0.mk (impl_AreWeights.calls A0 c0 l0 t w hr0 hc0 ht)
  have HR := Aside0.mk hr0
  have hm : l0.length ≤ 9223372036854775807 := hr0.2.1
  clear ht hr0
  cases t with
  | false =>
    simp at h
    obtain ⟨rfl, rfl, rfl⟩ := h
    go_enter Try.func25, Try.ntmps25
    go_wp2_with (go_at_call 17; (with_reducible refine HC.out.mono ?_); rintro e w' ⟨rfl, hb⟩)
    go_ret3
    exact ⟨rfl, hb⟩
  | true =>
    obtain ⟨R, hR⟩ : ∃ R, R = greedyL l0 (l0.length + 1) 0 (l0.length : Int) 0 [0, 0] := ⟨_, rfl⟩
    simp only [if_true, ← hR, Option.some.injEq, Prod.mk.injEq] at h
    have HRR := Aside0.mk hR
    clear hR
    obtain ⟨rfl, rfl, rfl⟩ := h
    go_enter Try.func25, Try.ntmps25
    go_wp2_with (go_at_call 17; (with_reducible refine HC.out.mono ?_); rintro e w' ⟨rfl, hb⟩)
    have HMR := Aside0.mk (show Kd.R (Kd.int .i64) 57 (w'.alloc (.cells #[.int .i64 0, .int .i64 0] 57)) w.heap.size (fun _ => True) (.slice (some ⟨w'.heap.size, 0, none⟩) 2 2) [0, 0] from
      Kd.R_of_own ⟨rfl, .inr ⟨w'.heap.size, 2, #[.int .i64 0, .int .i64 0], rfl, hb.size, blk_new _ _, Nat.le_refl _, by unfold maxLen; omega, rfl, rfl⟩⟩ (fun _ _ => trivial))
    have HB0 := Aside0.mk (show Below w.heap.size w (w'.alloc (.cells #[.int .i64 0, .int .i64 0] 57)) from hb.alloc hb.size _)
    have HGG := Aside0.mk hb.size
    obtain ⟨g, hg⟩ : ∃ g, g = w'.heap.size := ⟨_, rfl⟩
    obtain ⟨W1, hW1⟩ : ∃ W1, W1 = w'.alloc (.cells #[.int .i64 0, .int .i64 0] 57) := ⟨_, rfl⟩
    rw [← hg, ← hW1] at HMR
    rw [← hW1] at HB0
    rw [← hg] at HGG
    rw [← hg, ← hW1]
    clear hW1 hg hb
    go_loopg [6, 7, 8] (l0.length + 1) (fun gg v6 v7 v8 wr => ∃ (f e t : Int) (o : List Int), v6 = .int .i64 f ∧ v7 = .int .i64 e ∧ v8 = .int .i64 t ∧ Aside0 (0 ≤ f ∧ f ≤ e ∧ e ≤ (l0.length : Int) ∧ e - f < (gg : Int) ∧ 0 ≤ t ∧ t ≤ 1) ∧ o.length = 2 ∧ Aside0 (greedyL l0 gg f e t o = R) ∧ Aside0 (Kd.R (Kd.int .i64) 57 wr w.heap.size (fun _ => True) (.slice (some ⟨g, 0, none⟩) 2 2) o) ∧ Aside0 (Below w.heap.size w wr))
    case atStart => exact ⟨0, (l0.length : Int), 0, [0, 0], rfl, rfl, rfl, ⟨by omega⟩, rfl, ⟨HRR.out.symm⟩, HMR, HB0⟩
    case round =>
      obtain ⟨f, e, t, o, rfl, rfl, rfl, HS, ho, HL, HO, HB⟩ := hrel
      cases gk with
      | zero => exact absurd HS.out (by omega)
      | succ gk =>
        by_cases c0 : f < e
        · obtain ⟨ad, ea, hx⟩ := Kd.at_int (Kd.C_below HR.out HB.out) f HS.out.1 (by have := HS.out; omega)
          cases ea
          have e3 : wrap64 (e - 1) = e - 1 := by have := HS.out; unfold wrap64; omega
          have e4 : wrap64 (f + 1) = f + 1 := by have := HS.out; unfold wrap64; omega
          have e5 : wrap64 (1 - t) = 1 - t := by have := HS.out; unfold wrap64; omega
          have p3 : 0 ≤ wrap64 (e - 1) := by have := HS.out; omega
          have q3 : wrap64 (e - 1) < (l0.length : Int) := by have := HS.out; omega
          have p2 : 0 ≤ f := HS.out.1
          have q2 : f < (l0.length : Int) := by have := HS.out; omega
          have p4 : 0 ≤ t := by have := HS.out; omega
          have q4 : t < ((2 : Nat) : Int) := by have := HS.out; omega
          have q5 : t < 2 := by have := HS.out; omega
          obtain ⟨ad', ea, hy⟩ := Kd.at_int (Kd.C_below HR.out HB.out) (wrap64 (e - 1)) p3 q3
          cases ea
          obtain ⟨hz, hf⟩ := Kd.R_celln 0 HO.out t p4 q4
          have HE := Aside0.mk (show wrap64 (e - 1) = e - 1 ∧ wrap64 (f + 1) = f + 1 ∧ wrap64 (1 - t) = 1 - t ∧ f < e from ⟨e3, e4, e5, c0⟩)
          clear e3 e4 e5
          have h := HL.out
          simp only [greedyL] at h
          rw [if_pos c0] at h
          have c0b : decide (f < e) = true := decide_eq_true c0
          replace p3 := eq_true p3
          replace q3 := eq_true q3
          replace p2 := eq_true p2
          replace q2 := eq_true q2
          replace p4 := eq_true p4
          replace q5 := eq_true q5
          clear q4 c0 HL
          by_cases c1 : rd l0 f ≥ rd l0 (wrap64 (e - 1))
          · have c1b : decide (rd l0 (wrap64 (e - 1)) ≤ rd l0 f) = true := decide_eq_true c1
            rw [if_pos c1] at h
            have HL := Aside0.mk h
            clear h c1
            go_wp2
            go_quiet (fail)
            go_wp2
            have HO2 := Aside0.mk (Kd.R_drewN (m := nq) HO.out)
            have HB2 := Aside0.mk (pw_below_drewN HB.out nq)
            have hx2 : (wr.drewN nq).cell? (ad.add f.toNat) = some (.int .i64 (rd l0 f)) := hx
            have hz2 : (wr.drewN nq).cell? ⟨g, t.toNat, none⟩ = some (.int .i64 (rd o t)) := hz
            have hf2 : (wr.drewN nq).frozen? ⟨g, t.toNat, none⟩ = false := hf
            clear hx hz hf HO HB hy
            generalize wr.drewN nq = W2 at HO2 HB2 hx2 hz2 hf2 ⊢
            go_region
            have HP := Aside0.mk (Kd.R_putg HO2.out t (wrap64 (rd o t + rd l0 f))).1
            have HB3 := Aside0.mk (below_set (j := t.toNat) (v := .int .i64 (wrap64 (rd o t + rd l0 f))) HB2.out HGG.out)
            go_wp2
            go_roundg gk
            case measure => omega
            case rel => exact ⟨wrap64 (f + 1), e, wrap64 (1 - t), o.set t.toNat (wrap64 (rd o t + rd l0 f)), rfl, rfl, rfl, ⟨by have := HS.out; have := HE.out; omega⟩, by rw [List.length_set]; exact ho, HL, ⟨Kd.R_drew HP.out⟩, ⟨below_drew1 HB3.out⟩⟩
          · have c1b : decide (rd l0 (wrap64 (e - 1)) ≤ rd l0 f) = false := decide_eq_false c1
            rw [if_neg c1] at h
            have HL := Aside0.mk h
            clear h c1
            go_wp2
            go_quiet (fail)
            go_wp2
            have HO2 := Aside0.mk (Kd.R_drewN (m := nq) HO.out)
            have HB2 := Aside0.mk (pw_below_drewN HB.out nq)
            have hx2 : (wr.drewN nq).cell? (ad.add (wrap64 (e - 1)).toNat) = some (.int .i64 (rd l0 (wrap64 (e - 1)))) := hy
            have hz2 : (wr.drewN nq).cell? ⟨g, t.toNat, none⟩ = some (.int .i64 (rd o t)) := hz
            have hf2 : (wr.drewN nq).frozen? ⟨g, t.toNat, none⟩ = false := hf
            clear hx hz hf HO HB hy
            generalize wr.drewN nq = W2 at HO2 HB2 hx2 hz2 hf2 ⊢
            go_region
            have HP := Aside0.mk (Kd.R_putg HO2.out t (wrap64 (rd o t + rd l0 (wrap64 (e - 1))))).1
            have HB3 := Aside0.mk (below_set (j := t.toNat) (v := .int .i64 (wrap64 (rd o t + rd l0 (wrap64 (e - 1))))) HB2.out HGG.out)
            go_wp2
            go_roundg gk
            case measure => omega
            case rel => exact ⟨f, wrap64 (e - 1), wrap64 (1 - t), o.set t.toNat (wrap64 (rd o t + rd l0 (wrap64 (e - 1)))), rfl, rfl, rfl, ⟨by have := HS.out; have := HE.out; omega⟩, by rw [List.length_set]; exact ho, HL, ⟨Kd.R_drew HP.out⟩, ⟨below_drew1 HB3.out⟩⟩
        · have h := HL.out
          simp only [greedyL] at h
          rw [if_neg c0] at h
          obtain rfl := h
          have c0b : decide (f < e) = false := decide_eq_false c0
          obtain ⟨hz0, _⟩ := Kd.R_celln 0 HO.out 0 (by omega) (by omega)
          obtain ⟨hz1, _⟩ := Kd.R_celln 0 HO.out 1 (by omega) (by omega)
          replace hz0 : wr.cell? ⟨g, 0, none⟩ = some (.int .i64 (rd o 0)) := hz0
          replace hz1 : wr.cell? ⟨g, 1, none⟩ = some (.int .i64 (rd o 1)) := hz1
          clear c0 HL
          go_wp2
          go_quiet (fail)
          go_wp2
          go_ret3
          exact ⟨rfl, pw_below_drewN HB.out _⟩

end Go.Proofs.Ytnppcpjkjepfeaa.G
