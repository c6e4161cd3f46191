-- Laid by a program of this session (wip/pp.py) over the seat's translation, with its own texts for some functions.
import Derived.Test.YtaocnjaeaiacmaaDoorR0
import Derived.Test.YtaocnjaeaiacmaaDoorR3
import Derived.Test.YtaocnjaeaiacmaaDoorR4
namespace Go.Proofs.YtaocnjaeaiacmaaDoor.R
open Go.RowKit Go.Proofs.YtaocnjaeaiacmaaDoorW.PrintWords Go.Proofs.YtaocnjaeaiacmaaDoorW.PrintLast Go.Proofs.YtaocnjaeaiacmaaDoorW.PrintMore
attribute [local go_sem] max2_int min2_int max_two min_two max_three min_three max_four min_four   -- for this text's walks alone
set_option linter.unusedVariables false
set_option linter.unusedSimpArgs false

/-! ### spec_mlSun: function 30 -/
mutual
def spec_mlSun.j0 : Nat → ByteArray → List Bool → Int → Int → Int → Int → Bool → Option (List ByteArray)
  | 0, _, _, _, _, _, _, _ => none
  | k + 1, x1, x5, x6, x7, x8, x9, x29 => if x29 = true then (spec_mlSun.j1 k x1 x5 x6 x7 x7 x6) else (spec_mlSun.j1 k x1 x5 x6 x7 x8 x9)
def spec_mlSun.j1 : Nat → ByteArray → List Bool → Int → Int → Int → Int → Option (List ByteArray)
  | 0, _, _, _, _, _, _ => none
  | k + 1, x1, x5, x6, x7, x8, x9 => spec_mlSun.l0 k x1 x5 x6 x7 x8 x9 0
def spec_mlSun.l0 : Nat → ByteArray → List Bool → Int → Int → Int → Int → Int → Option (List ByteArray)
  | 0, _, _, _, _, _, _, _ => none
  | k + 1, x1, x5, x6, x7, x8, x9, x10 => if x10 < x8 then (spec_mlSun.l1 k x1 x5 x6 x7 x8 x9 x10 0) else ((spec_mlOf.f k x6 x5).bind fun t121 => (some t121))
def spec_mlSun.l1 : Nat → ByteArray → List Bool → Int → Int → Int → Int → Int → Int → Option (List ByteArray)
  | 0, _, _, _, _, _, _, _, _ => none
  | k + 1, x1, x5, x6, x7, x8, x9, x10, x11 => if x11 < x9 then (if x1.toList = ([100] : List UInt8) then (if 0 ≤ (wrap64 ((wrap64 ((wrap64 ((wrap64 (x7 - 1)) - x11)) * x6)) + x10)) then (if (wrap64 ((wrap64 ((wrap64 ((wrap64 (x7 - 1)) - x11)) * x6)) + x10)) < (x5.length : Int) then (if rdOf false x5 (wrap64 ((wrap64 ((wrap64 ((wrap64 (x7 - 1)) - x11)) * x6)) + x10)) = true then (spec_mlSun.l0 k x1 (x5.set ((wrap64 ((wrap64 ((wrap64 ((wrap64 (x7 - 1)) - x11)) * x6)) + x10)) : Int).toNat false) x6 x7 x8 x9 (wrap64 (x10 + 1))) else (spec_mlSun.l1 k x1 x5 x6 x7 x8 x9 x10 (wrap64 (x11 + 1)))) else (none)) else (none)) else (if x1.toList = ([108] : List UInt8) then (if 0 ≤ (wrap64 ((wrap64 (x10 * x6)) + x11)) then (if (wrap64 ((wrap64 (x10 * x6)) + x11)) < (x5.length : Int) then (if rdOf false x5 (wrap64 ((wrap64 (x10 * x6)) + x11)) = true then (spec_mlSun.l0 k x1 (x5.set ((wrap64 ((wrap64 (x10 * x6)) + x11)) : Int).toNat false) x6 x7 x8 x9 (wrap64 (x10 + 1))) else (spec_mlSun.l1 k x1 x5 x6 x7 x8 x9 x10 (wrap64 (x11 + 1)))) else (none)) else (none)) else (if x1.toList = ([114] : List UInt8) then (if 0 ≤ (wrap64 ((wrap64 (x10 * x6)) + (wrap64 ((wrap64 (x6 - 1)) - x11)))) then (if (wrap64 ((wrap64 (x10 * x6)) + (wrap64 ((wrap64 (x6 - 1)) - x11)))) < (x5.length : Int) then (if rdOf false x5 (wrap64 ((wrap64 (x10 * x6)) + (wrap64 ((wrap64 (x6 - 1)) - x11)))) = true then (spec_mlSun.l0 k x1 (x5.set ((wrap64 ((wrap64 (x10 * x6)) + (wrap64 ((wrap64 (x6 - 1)) - x11)))) : Int).toNat false) x6 x7 x8 x9 (wrap64 (x10 + 1))) else (spec_mlSun.l1 k x1 x5 x6 x7 x8 x9 x10 (wrap64 (x11 + 1)))) else (none)) else (none)) else (if 0 ≤ (wrap64 ((wrap64 (x11 * x6)) + x10)) then (if (wrap64 ((wrap64 (x11 * x6)) + x10)) < (x5.length : Int) then (if rdOf false x5 (wrap64 ((wrap64 (x11 * x6)) + x10)) = true then (spec_mlSun.l0 k x1 (x5.set ((wrap64 ((wrap64 (x11 * x6)) + x10)) : Int).toNat false) x6 x7 x8 x9 (wrap64 (x10 + 1))) else (spec_mlSun.l1 k x1 x5 x6 x7 x8 x9 x10 (wrap64 (x11 + 1)))) else (none)) else (none))))) else (spec_mlSun.l0 k x1 x5 x6 x7 x8 x9 (wrap64 (x10 + 1)))
end
def spec_mlSun.f (k : Nat) (l0 : List ByteArray) (a1 : ByteArray) : Option (List ByteArray) := (spec_mlIs.f k l0).bind fun t117 => (if 0 < (l0.length : Int) then (if a1.toList = ([108] : List UInt8) then (spec_mlSun.j0 k a1 t117 ((rdOf ByteArray.empty l0 0).size : Int) (l0.length : Int) ((rdOf ByteArray.empty l0 0).size : Int) (l0.length : Int) true) else (spec_mlSun.j0 k a1 t117 ((rdOf ByteArray.empty l0 0).size : Int) (l0.length : Int) ((rdOf ByteArray.empty l0 0).size : Int) (l0.length : Int) (a1.toList == ([114] : List UInt8)))) else (none))
theorem spec_mlSun.mono_l : ∀ k, (∀ y0 y1 y2 y3 y4 y5 y6, LeO (spec_mlSun.j0 k y0 y1 y2 y3 y4 y5 y6) (spec_mlSun.j0 (k + 1) y0 y1 y2 y3 y4 y5 y6)) ∧ (∀ y0 y1 y2 y3 y4 y5, LeO (spec_mlSun.j1 k y0 y1 y2 y3 y4 y5) (spec_mlSun.j1 (k + 1) y0 y1 y2 y3 y4 y5)) ∧ (∀ y0 y1 y2 y3 y4 y5 y6, LeO (spec_mlSun.l0 k y0 y1 y2 y3 y4 y5 y6) (spec_mlSun.l0 (k + 1) y0 y1 y2 y3 y4 y5 y6)) ∧ (∀ y0 y1 y2 y3 y4 y5 y6 y7, LeO (spec_mlSun.l1 k y0 y1 y2 y3 y4 y5 y6 y7) (spec_mlSun.l1 (k + 1) y0 y1 y2 y3 y4 y5 y6 y7))
  | 0 => ⟨fun _ _ _ _ _ _ _ r h => by simp [spec_mlSun.j0] at h, fun _ _ _ _ _ _ r h => by simp [spec_mlSun.j1] at h, fun _ _ _ _ _ _ _ r h => by simp [spec_mlSun.l0] at h, fun _ _ _ _ _ _ _ _ r h => by simp [spec_mlSun.l1] at h⟩
  | k + 1 => by
    obtain ⟨ih0, ih1, ih2, ih3⟩ := spec_mlSun.mono_l k
    refine ⟨?_, ?_, ?_, ?_⟩
    · intro y0 y1 y2 y3 y4 y5 y6
      unfold spec_mlSun.j0
      repeat' first
      | (with_reducible exact ih0 _ _ _ _ _ _ _)
      | (with_reducible exact ih1 _ _ _ _ _ _)
      | (with_reducible exact ih2 _ _ _ _ _ _ _)
      | (with_reducible exact ih3 _ _ _ _ _ _ _ _)
      | (with_reducible exact spec_mlIs.mono _ _)
      | (with_reducible exact spec_mlOf.mono _ _ _)
      | (with_reducible exact LeO.refl _)
      | (with_reducible exact LeO.none _)
      | (with_reducible refine LeO.ite ?_ ?_)
      | (with_reducible refine LeO.bind ?_ (fun _ => ?_))
      | exact ih0 _ _ _ _ _ _ _
      | exact ih1 _ _ _ _ _ _
      | exact ih2 _ _ _ _ _ _ _
      | exact ih3 _ _ _ _ _ _ _ _
      | exact spec_mlIs.mono _ _
      | exact spec_mlOf.mono _ _ _
      | exact LeO.none _
      | refine LeO.ite ?_ ?_
      | refine LeO.bind ?_ (fun _ => ?_)
    · intro y0 y1 y2 y3 y4 y5
      unfold spec_mlSun.j1
      repeat' first
      | (with_reducible exact ih0 _ _ _ _ _ _ _)
      | (with_reducible exact ih1 _ _ _ _ _ _)
      | (with_reducible exact ih2 _ _ _ _ _ _ _)
      | (with_reducible exact ih3 _ _ _ _ _ _ _ _)
      | (with_reducible exact spec_mlIs.mono _ _)
      | (with_reducible exact spec_mlOf.mono _ _ _)
      | (with_reducible exact LeO.refl _)
      | (with_reducible exact LeO.none _)
      | (with_reducible refine LeO.ite ?_ ?_)
      | (with_reducible refine LeO.bind ?_ (fun _ => ?_))
      | exact ih0 _ _ _ _ _ _ _
      | exact ih1 _ _ _ _ _ _
      | exact ih2 _ _ _ _ _ _ _
      | exact ih3 _ _ _ _ _ _ _ _
      | exact spec_mlIs.mono _ _
      | exact spec_mlOf.mono _ _ _
      | exact LeO.none _
      | refine LeO.ite ?_ ?_
      | refine LeO.bind ?_ (fun _ => ?_)
    · intro y0 y1 y2 y3 y4 y5 y6
      unfold spec_mlSun.l0
      repeat' first
      | (with_reducible exact ih0 _ _ _ _ _ _ _)
      | (with_reducible exact ih1 _ _ _ _ _ _)
      | (with_reducible exact ih2 _ _ _ _ _ _ _)
      | (with_reducible exact ih3 _ _ _ _ _ _ _ _)
      | (with_reducible exact spec_mlIs.mono _ _)
      | (with_reducible exact spec_mlOf.mono _ _ _)
      | (with_reducible exact LeO.refl _)
      | (with_reducible exact LeO.none _)
      | (with_reducible refine LeO.ite ?_ ?_)
      | (with_reducible refine LeO.bind ?_ (fun _ => ?_))
      | exact ih0 _ _ _ _ _ _ _
      | exact ih1 _ _ _ _ _ _
      | exact ih2 _ _ _ _ _ _ _
      | exact ih3 _ _ _ _ _ _ _ _
      | exact spec_mlIs.mono _ _
      | exact spec_mlOf.mono _ _ _
      | exact LeO.none _
      | refine LeO.ite ?_ ?_
      | refine LeO.bind ?_ (fun _ => ?_)
    · intro y0 y1 y2 y3 y4 y5 y6 y7
      unfold spec_mlSun.l1
      repeat' first
      | (with_reducible exact ih0 _ _ _ _ _ _ _)
      | (with_reducible exact ih1 _ _ _ _ _ _)
      | (with_reducible exact ih2 _ _ _ _ _ _ _)
      | (with_reducible exact ih3 _ _ _ _ _ _ _ _)
      | (with_reducible exact spec_mlIs.mono _ _)
      | (with_reducible exact spec_mlOf.mono _ _ _)
      | (with_reducible exact LeO.refl _)
      | (with_reducible exact LeO.none _)
      | (with_reducible refine LeO.ite ?_ ?_)
      | (with_reducible refine LeO.bind ?_ (fun _ => ?_))
      | exact ih0 _ _ _ _ _ _ _
      | exact ih1 _ _ _ _ _ _
      | exact ih2 _ _ _ _ _ _ _
      | exact ih3 _ _ _ _ _ _ _ _
      | exact spec_mlIs.mono _ _
      | exact spec_mlOf.mono _ _ _
      | exact LeO.none _
      | refine LeO.ite ?_ ?_
      | refine LeO.bind ?_ (fun _ => ?_)
theorem spec_mlSun.mono : ∀ a0 a1 k, LeO (spec_mlSun.f k a0 a1) (spec_mlSun.f (k + 1) a0 a1) := by
  intro a0 a1 k
  obtain ⟨ih0, ih1, ih2, ih3⟩ := spec_mlSun.mono_l k
  unfold spec_mlSun.f
  repeat' first
      | (with_reducible exact ih0 _ _ _ _ _ _ _)
      | (with_reducible exact ih1 _ _ _ _ _ _)
      | (with_reducible exact ih2 _ _ _ _ _ _ _)
      | (with_reducible exact ih3 _ _ _ _ _ _ _ _)
      | (with_reducible exact spec_mlIs.mono _ _)
      | (with_reducible exact spec_mlOf.mono _ _ _)
      | (with_reducible exact LeO.refl _)
      | (with_reducible exact LeO.none _)
      | (with_reducible refine LeO.ite ?_ ?_)
      | (with_reducible refine LeO.bind ?_ (fun _ => ?_))
      | exact ih0 _ _ _ _ _ _ _
      | exact ih1 _ _ _ _ _ _
      | exact ih2 _ _ _ _ _ _ _
      | exact ih3 _ _ _ _ _ _ _ _
      | exact spec_mlIs.mono _ _
      | exact spec_mlOf.mono _ _ _
      | exact LeO.none _
      | refine LeO.ite ?_ ?_
      | refine LeO.bind ?_ (fun _ => ?_)
set_option maxHeartbeats 8000000 in
set_option maxRecDepth 100000 in
theorem spec_mlSun.calls (k : Nat) (A0 : Option Addr) (c0 : Nat) (l0 : List ByteArray) (a1 : ByteArray) (r : List ByteArray) (w : World) (hr0 : Kd.C Kd.string w A0 l0.length l0) (hc0 : l0.length ≤ c0) (h : spec_mlSun.f k l0 a1 = some r) :
    Calls Tryd.prog 30 #[.slice A0 l0.length c0, .string a1] w fun e w' => ∃ v0_ : Value, e = .returned (v0_) ∧ Kd.R Kd.string 9 w' w.heap.size (fun _ => True) v0_ r ∧ Below w.heap.size w w' := by
  have HR0 := Aside0.mk hr0
  have HC0 := Aside0.mk hc0
  clear hr0 hc0
  have HB := Aside0.mk (Below.refl w.heap.size w)
  have H : ((spec_mlIs.f k l0).bind fun t117 => (if 0 < (l0.length : Int) then (if a1.toList = ([108] : List UInt8) then (spec_mlSun.j0 k a1 t117 ((rdOf ByteArray.empty l0 0).size : Int) (l0.length : Int) ((rdOf ByteArray.empty l0 0).size : Int) (l0.length : Int) true) else (spec_mlSun.j0 k a1 t117 ((rdOf ByteArray.empty l0 0).size : Int) (l0.length : Int) ((rdOf ByteArray.empty l0 0).size : Int) (l0.length : Int) (a1.toList == ([114] : List UInt8)))) else (none))) = some r := h
  clear h
  replace H := Option.bind_eq_some_iff.mp H
  obtain ⟨t117, A30, H⟩ := H
  replace H : (if 0 < (l0.length : Int) then (if a1.toList = ([108] : List UInt8) then (spec_mlSun.j0 k a1 t117 ((rdOf ByteArray.empty l0 0).size : Int) (l0.length : Int) ((rdOf ByteArray.empty l0 0).size : Int) (l0.length : Int) true) else (spec_mlSun.j0 k a1 t117 ((rdOf ByteArray.empty l0 0).size : Int) (l0.length : Int) ((rdOf ByteArray.empty l0 0).size : Int) (l0.length : Int) (a1.toList == ([114] : List UInt8)))) else (none)) = some r := H
  have A3 := Aside0.mk A30
  clear A30
  by_cases c4 : 0 < (l0.length : Int)
  · rw [if_pos c4] at H
    have c4b0 : decide (0 < (l0.length : Int)) = true := decide_eq_true c4
    have c4b1 : decide (0 < l0.length) = true := decide_eq_true (by omega)
    clear c4
    have HC5 := Aside0.mk H
    clear H
    go_enter Tryd.func30, Tryd.ntmps30
    go_upto_region 4 with (first | ((with_reducible refine gate_callee (f := 50) rfl ?_); refine goesL_ (some 15) rfl rfl Tryd.func50 (by kernel_rfl) rfl #[.slice A0 l0.length c0] rfl (by (try simp only [List.map_toArray, List.map_cons, List.map_nil]); first | done | rfl | (simp only [List.length_drop, List.length_take]; rfl)) ?_; (with_reducible refine (spec_mlIs.calls k _ _ l0 t117 _ ?side1 ?side2 A3.out).mono ?_); (case side1 => repeat (first | exact HR0.out | (with_reducible refine Kd.C_alloc ?_ _) | (with_reducible refine Kd.C_drewN ?_ _) | (with_reducible refine Kd.C_drew ?_))); (case side2 => exact HC0.out); rintro e w6 ⟨v118, rfl, ho0, hb⟩; refine ⟨_, rfl, ?_⟩; have n0_ := Aside0.mk (Kd.R_lower ho0 (below_size (by repeat (first | (with_reducible first | exact HB.out | apply below_alloc | apply pw_below_drewN | apply below_drew1) | exact HB.out)))); have n1_ := Aside0.mk (below_step (by repeat (first | (with_reducible first | exact HB.out | apply below_alloc | apply pw_below_drewN | apply below_drew1) | exact HB.out)) hb); clear HB; have HO119 := n0_; have HB := n1_; clear n0_ n1_; (try clear hb); (try clear hb2); (try clear hk); (try clear hi); (try clear ho0); have p120 : 0 ≤ (0 : Int) := (by omega); have q120 : 0 < (l0.length : Int) := of_decide_eq_true (by first | (with_reducible assumption) | assumption); obtain ⟨ad120, e120, hx120_0⟩ := Kd.at_string HR0.out 0 p120 q120; cases e120; have qi120 : (0 < l0.length) = True := eq_true (by omega); (try rw [show ((0 : Int)).toNat = 0 from rfl] at hx120_0); (try rw [Addr.add_zero'] at hx120_0); replace hx120_0 := (HB.out.cell (World.block_lt_of_cell? w _ hx120_0)).trans hx120_0; replace p120 := eq_true p120; replace q120 := eq_true q120))
    (try simp only [Act.put, List.setIfInBounds_toArray, List.set_cons_zero, List.set_cons_succ])
    go_cut [29] (fun v29 wc => ∃ (kq : Nat) (x29_4 : Bool), v29 = .bool x29_4 ∧ Aside0 (spec_mlSun.j0 kq a1 t117 ((rdOf ByteArray.empty l0 0).size : Int) (l0.length : Int) ((rdOf ByteArray.empty l0 0).size : Int) (l0.length : Int) x29_4 = some r) ∧ Aside0 (kq ≤ k) ∧ Aside0 (Kd.R Kd.bool 4 wc w.heap.size (fun _ => True) v118 t117) ∧ Aside0 (Below w.heap.size w wc))
    case first =>
      have H := HC5.out
      clear HC5
      by_cases c7 : a1.toList = ([108] : List UInt8)
      · rw [if_pos c7] at H
        have c7b0 : (a1.toList == ([108] : List UInt8)) = true := beq_iff_eq.mpr c7
        have c7b1 : (a1.toList != ([108] : List UInt8)) = false := bne_eq_false_iff_eq.mpr c7
        clear c7
        (first | rw [c7b0] | (simp only [i64_w, i32_w]; rw [c7b0]) | skip)
        have H' := Aside0.mk H
        clear H
        go_wp2
        go_meet
        case rel => exact ⟨_, (true), (by first | rfl | (simp; done) | (simp [*]; done)), H', ⟨by first | omega | exact Nat.le_refl _⟩, ⟨by (with_reducible repeat (first | apply Kd.R_alloc | apply Kd.R_drewN | apply Kd.R_drew)); exact HO119.out⟩, ⟨by repeat (first | (with_reducible first | exact HB.out | apply below_alloc | apply pw_below_drewN | apply below_drew1) | exact HB.out)⟩⟩
      · rw [if_neg c7] at H
        have c7b0 : (a1.toList == ([108] : List UInt8)) = false := beq_eq_false_iff_ne.mpr c7
        have c7b1 : (a1.toList != ([108] : List UInt8)) = true := bne_iff_ne.mpr c7
        (first | rw [c7b0] | (simp only [i64_w, i32_w]; rw [c7b0]) | skip)
        have H' := Aside0.mk H
        clear H
        go_wp2
        go_meet
        case rel => exact ⟨_, ((a1.toList == ([114] : List UInt8))), (by first | rfl | (simp; done) | (simp [*]; done)), H', ⟨by first | omega | exact Nat.le_refl _⟩, ⟨by (with_reducible repeat (first | apply Kd.R_alloc | apply Kd.R_drewN | apply Kd.R_drew)); exact HO119.out⟩, ⟨by repeat (first | (with_reducible first | exact HB.out | apply below_alloc | apply pw_below_drewN | apply below_drew1) | exact HB.out)⟩⟩
    case rest =>
      clear HC5
      try clear p1
      try clear q1
      try clear hx1
      try clear qi1
      try clear p2
      try clear c3
      try clear c4
      try clear c4b0
      try clear c4b1
      try clear c5
      try clear c7
      try clear c7b0
      try clear c7b1
      try clear hx120_0
      try clear p120
      try clear q120
      obtain ⟨kq, x29_4, rfl, HA, HJ4, HO_5, HB⟩ := hcut
      cases kq with
      | zero => exact absurd HA.out (by simp [spec_mlSun.j0])
      | succ kj4 =>
        have H := HA.out
        clear HA
        simp only [spec_mlSun.j0] at H
        have HC8 := Aside0.mk H
        clear H
        go_upto_if 29 with (fail)
        go_cut [8, 9] (fun v8 v9 wc => ∃ (kq : Nat) (x8_7 : Int) (x9_7 : Int), v8 = .int .i64 x8_7 ∧ v9 = .int .i64 x9_7 ∧ Aside0 (spec_mlSun.j1 kq a1 t117 ((rdOf ByteArray.empty l0 0).size : Int) (l0.length : Int) x8_7 x9_7 = some r) ∧ Aside0 (kq ≤ kj4) ∧ Aside0 (Kd.R Kd.bool 4 wc w.heap.size (fun _ => True) v118 t117) ∧ Aside0 (Below w.heap.size w wc))
        case first =>
          have H := HC8.out
          clear HC8
          by_cases c9 : x29_4 = true
          · subst c9
            have H1 : (spec_mlSun.j1 kj4 a1 t117 ((rdOf ByteArray.empty l0 0).size : Int) (l0.length : Int) (l0.length : Int) ((rdOf ByteArray.empty l0 0).size : Int)) = some r := by rw [if_pos rfl] at H; exact H
            clear H
            have H := H1
            clear H1
            have H' := Aside0.mk H
            clear H
            go_wp2
            go_meet
            case rel => exact ⟨_, ((l0.length : Int)), (((rdOf ByteArray.empty l0 0).size : Int)), (by first | rfl | (simp; done) | (simp [*]; done)), (by first | rfl | (simp; done) | (simp [*]; done)), H', ⟨by have := HJ4.out; first | omega | exact Nat.le_refl _⟩, ⟨by (with_reducible repeat (first | apply Kd.R_alloc | apply Kd.R_drewN | apply Kd.R_drew)); exact HO_5.out⟩, ⟨by repeat (first | (with_reducible first | exact HB.out | apply below_alloc | apply pw_below_drewN | apply below_drew1) | exact HB.out)⟩⟩
          · replace c9 := Bool.eq_false_iff.mpr c9
            subst c9
            have H1 : (spec_mlSun.j1 kj4 a1 t117 ((rdOf ByteArray.empty l0 0).size : Int) (l0.length : Int) ((rdOf ByteArray.empty l0 0).size : Int) (l0.length : Int)) = some r := by rw [if_neg (show ¬ (false = true) by decide)] at H; exact H
            clear H
            have H := H1
            clear H1
            have H' := Aside0.mk H
            clear H
            go_wp2
            go_meet
            case rel => exact ⟨_, (((rdOf ByteArray.empty l0 0).size : Int)), ((l0.length : Int)), (by first | rfl | (simp; done) | (simp [*]; done)), (by first | rfl | (simp; done) | (simp [*]; done)), H', ⟨by have := HJ4.out; first | omega | exact Nat.le_refl _⟩, ⟨by (with_reducible repeat (first | apply Kd.R_alloc | apply Kd.R_drewN | apply Kd.R_drew)); exact HO_5.out⟩, ⟨by repeat (first | (with_reducible first | exact HB.out | apply below_alloc | apply pw_below_drewN | apply below_drew1) | exact HB.out)⟩⟩
        case rest =>
          clear HC8
          try clear p1
          try clear q1
          try clear hx1
          try clear qi1
          try clear p2
          try clear c3
          try clear c4
          try clear c4b0
          try clear c4b1
          try clear c5
          try clear c7
          try clear c7b0
          try clear c7b1
          try clear c9
          try clear hx120_0
          try clear p1
          try clear p120
          try clear p2
          try clear q1
          try clear q120
          obtain ⟨kq, x8_7, x9_7, rfl, rfl, HA, HJ7, HO_5, HB⟩ := hcut
          cases kq with
          | zero => exact absurd HA.out (by simp [spec_mlSun.j1])
          | succ kj7 =>
            have H := HA.out
            clear HA
            simp only [spec_mlSun.j1] at H
            have H' := Aside0.mk H
            clear H
            go_wp2
            go_loopg [10] kj7 (fun kq v10 w' => ∃ (x5_3 : List Bool) (x10_3 : Int), v10 = .int .i64 x10_3 ∧ Aside0 (spec_mlSun.l0 kq a1 x5_3 ((rdOf ByteArray.empty l0 0).size : Int) (l0.length : Int) x8_7 x9_7 x10_3 = some r) ∧ Aside0 (kq ≤ kj7) ∧ Aside0 (Kd.R Kd.bool 4 w' w.heap.size (fun _ => True) v118 x5_3) ∧ Aside0 (Below w.heap.size w w'))
            case atStart => exact ⟨(t117), (0), (by first | rfl | (simp; done) | (simp [*]; done)), H', ⟨Nat.le_refl _⟩, ⟨by (with_reducible repeat (first | apply Kd.R_alloc | apply Kd.R_drewN | apply Kd.R_drew)); exact HO_5.out⟩, ⟨by repeat (first | (with_reducible first | exact HB.out | apply below_alloc | apply pw_below_drewN | apply below_drew1) | exact HB.out)⟩⟩
            case round =>
              clear H'
              try clear p1
              try clear q1
              try clear hx1
              try clear qi1
              try clear p2
              try clear c3
              try clear c4
              try clear c4b0
              try clear c4b1
              try clear c5
              try clear c7
              try clear c7b0
              try clear c7b1
              try clear c9
              try clear hx120_0
              try clear p1
              try clear p120
              try clear p2
              try clear q1
              try clear q120
              obtain ⟨x5_3, x10_3, rfl, HA, HK3, HO_5, HB⟩ := hrel
              cases gk with
              | zero => exact absurd HA.out (by simp [spec_mlSun.l0])
              | succ k3 =>
                have H := HA.out
                clear HA
                simp only [spec_mlSun.l0] at H
                by_cases c10 : x10_3 < x8_7
                · rw [if_pos c10] at H
                  have c10b0 : decide (x10_3 < x8_7) = true := decide_eq_true c10
                  clear c10
                  have H' := Aside0.mk H
                  clear H
                  go_wp2
                  go_loopg [11] k3 (fun kq v11 w' => ∃ (x5_4 : List Bool) (x11_4 : Int), v11 = .int .i64 x11_4 ∧ Aside0 (spec_mlSun.l1 kq a1 x5_4 ((rdOf ByteArray.empty l0 0).size : Int) (l0.length : Int) x8_7 x9_7 x10_3 x11_4 = some r) ∧ Aside0 (kq ≤ k3) ∧ Aside0 (Kd.R Kd.bool 4 w' w.heap.size (fun _ => True) v118 x5_4) ∧ Aside0 (Below w.heap.size w w'))
                  case atStart => exact ⟨(x5_3), (0), (by first | rfl | (simp; done) | (simp [*]; done)), H', ⟨Nat.le_refl _⟩, ⟨by (with_reducible repeat (first | apply Kd.R_alloc | apply Kd.R_drewN | apply Kd.R_drew)); exact HO_5.out⟩, ⟨by repeat (first | (with_reducible first | exact HB.out | apply below_alloc | apply pw_below_drewN | apply below_drew1) | exact HB.out)⟩⟩
                  case round =>
                    clear H'
                    try clear c1
                    try clear p1
                    try clear q1
                    try clear hx1
                    try clear qi1
                    try clear p2
                    try clear c3
                    try clear c4
                    try clear c4b0
                    try clear c4b1
                    try clear c5
                    try clear c7
                    try clear c7b0
                    try clear c7b1
                    try clear c9
                    try clear c10
                    try clear c10b0
                    try clear hx120_0
                    try clear p1
                    try clear p120
                    try clear p2
                    try clear q1
                    try clear q120
                    obtain ⟨x5_4, x11_4, rfl, HA, HK4, HO_5, HB⟩ := hrel
                    cases gk with
                    | zero => exact absurd HA.out (by simp [spec_mlSun.l1])
                    | succ k4 =>
                      have H := HA.out
                      clear HA
                      simp only [spec_mlSun.l1] at H
                      by_cases c11 : x11_4 < x9_7
                      · rw [if_pos c11] at H
                        have c11b0 : decide (x11_4 < x9_7) = true := decide_eq_true c11
                        clear c11
                        by_cases c12 : a1.toList = ([100] : List UInt8)
                        · rw [if_pos c12] at H
                          have c12b0 : (a1.toList == ([100] : List UInt8)) = true := beq_iff_eq.mpr c12
                          have c12b1 : (a1.toList != ([100] : List UInt8)) = false := bne_eq_false_iff_eq.mpr c12
                          clear c12
                          obtain ⟨ji13, hji13⟩ : ∃ j_ : Int, (wrap64 ((wrap64 ((wrap64 ((wrap64 ((l0.length : Int) - 1)) - x11_4)) * ((rdOf ByteArray.empty l0 0).size : Int))) + x10_3)) = j_ := ⟨_, rfl⟩
                          replace H : (if 0 ≤ (ji13) then (if (ji13) < (x5_4.length : Int) then (if rdOf false x5_4 (ji13) = true then (spec_mlSun.l0 k4 a1 (x5_4.set ((ji13) : Int).toNat false) ((rdOf ByteArray.empty l0 0).size : Int) (l0.length : Int) x8_7 x9_7 (wrap64 (x10_3 + 1))) else (spec_mlSun.l1 k4 a1 x5_4 ((rdOf ByteArray.empty l0 0).size : Int) (l0.length : Int) x8_7 x9_7 x10_3 (wrap64 (x11_4 + 1)))) else (none)) else (none)) = some r := by first | (rw [hji13] at H; exact H) | (simp only [hji13] at H ⊢; exact H)
                          have hji13w : (IntKind.i64.wrap ((wrap64 ((wrap64 ((wrap64 ((l0.length : Int) - 1)) - x11_4)) * ((rdOf ByteArray.empty l0 0).size : Int))) + x10_3)) = ji13 := (i64_w _).trans hji13
                          by_cases c14 : 0 ≤ (ji13)
                          · rw [if_pos c14] at H
                            have c14b0 : decide (0 ≤ (ji13)) = true := decide_eq_true c14
                            clear c14
                            by_cases c15 : (ji13) < (x5_4.length : Int)
                            · rw [if_pos c15] at H
                              have c15b0 : decide ((ji13) < (x5_4.length : Int)) = true := decide_eq_true c15
                              clear c15
                              obtain ⟨bq16, hbq16⟩ : ∃ b_ : Bool, b_ = (rdOf false x5_4 (ji13)) := ⟨_, rfl⟩
                              replace H : (if bq16 = true then (spec_mlSun.l0 k4 a1 (x5_4.set ((ji13) : Int).toNat false) ((rdOf ByteArray.empty l0 0).size : Int) (l0.length : Int) x8_7 x9_7 (wrap64 (x10_3 + 1))) else (spec_mlSun.l1 k4 a1 x5_4 ((rdOf ByteArray.empty l0 0).size : Int) (l0.length : Int) x8_7 x9_7 x10_3 (wrap64 (x11_4 + 1)))) = some r := by rw [← hbq16] at H; exact H
                              have Nbq16 := Aside0.mk hbq16
                              clear hbq16
                              by_cases c17 : bq16 = true
                              · subst c17
                                have H1 : (spec_mlSun.l0 k4 a1 (x5_4.set ((ji13) : Int).toNat false) ((rdOf ByteArray.empty l0 0).size : Int) (l0.length : Int) x8_7 x9_7 (wrap64 (x10_3 + 1))) = some r := by rw [if_pos rfl] at H; exact H
                                clear H
                                have H := H1
                                clear H1
                                obtain ⟨y125, hy125⟩ : ∃ y_ : List Bool, y_ = (x5_4.set ((ji13) : Int).toNat false) := ⟨_, rfl⟩
                                replace H : (spec_mlSun.l0 k4 a1 y125 ((rdOf ByteArray.empty l0 0).size : Int) (l0.length : Int) x8_7 x9_7 (wrap64 (x10_3 + 1))) = some r := by first | (rw [hy125]; with_reducible exact H) | (have H2_ := (Option.bind_some _ _).symm.trans H; rw [hy125]; with_reducible exact H2_) | (have H2_ := (Option.bind_some _ _).symm.trans H; with_reducible exact H2_) | with_reducible exact H | (rw [hy125]; exact H) | exact H
                                have Ny125 := Aside0.mk hy125
                                clear hy125
                                have H' := Aside0.mk H
                                clear H
                                obtain ⟨Ao19, co19, eo19⟩ := Kd.R_slice HO_5.out
                                subst eo19
                                have p124 : 0 ≤ ((ji13) : Int) := of_decide_eq_true (by first | (with_reducible assumption) | assumption)
                                have q124 : (ji13) < (x5_4.length : Int) := of_decide_eq_true (by first | (with_reducible assumption) | assumption)
                                obtain ⟨ad124, e124, hx124_0⟩ := Kd.at_bool (Kd.R_reads' HO_5.out).2.2 (ji13) p124 q124
                                (try rw [← Nbq16.out] at hx124_0)
                                cases e124
                                replace p124 := eq_true p124
                                replace q124 := eq_true q124
                                have p18 : 0 ≤ ((ji13) : Int) := of_decide_eq_true (by first | (with_reducible assumption) | assumption)
                                have q18 : ((ji13) : Int) < ((x5_4.length : Int) : Int) := of_decide_eq_true (by first | (with_reducible assumption) | assumption)
                                obtain ⟨go18, co18, eo18, gb18, gl18, cl18, HG18⟩ := Kd.R_form HO_5.out (by omega)
                                (first | cases eo18 | (injection eo18 with ea_ en_ ec_; (first | subst ea_ | (injection ea_ with ea_; subst ea_)); subst ec_; clear en_))
                                have GB18 := Aside0.mk gb18
                                have GG18 := Aside0.mk HG18
                                clear gb18 gl18 HG18
                                (first | simp only [add_plain] at hx124_0 | skip)
                                obtain ⟨hx18_0, hf18_0⟩ := Kd.R_celln false HO_5.out ((ji13) : Int) p18 q18
                                replace p18 := eq_true p18
                                replace q18 := eq_true q18
                                have HP20 := Kd.R_putg HO_5.out ((ji13) : Int) false
                                go_wp2_with (first | ((with_reducible refine gate_store (t := 4) (p := 76) rfl ?_); refine store_event (t := 4) (p := 76) (v := ?vo_w21) (w1 := (wr.setCell ⟨go18, ((ji13) : Int).toNat, none⟩ (.bool false))) ?hg ?ho ?hn ?hr ?_; (case ho => rfl); (case hg => rfl); (case hn => rfl); (case hr => first | (go_simp; done) | (go_simp; rfl)); intro w21 hw; have hg : wr.grownBy w21 (some go18) := (by rw [hw]; exact HP20.2); have hp_ : Kd.R Kd.bool 4 w21 w.heap.size (fun _ => True) (.slice (some ⟨go18, 0, none⟩) x5_4.length co19) y125 := (by rw [hw, Ny125.out]; exact HP20.1); clear HP20; have n0_ := Aside0.mk (hp_); have n1_ := Aside0.mk ((by rw [hw]; exact below_set (HB.out) GB18.out : Below w.heap.size w w21)); clear HO_5; clear HB; have HO_5 := n0_; have HB := n1_; clear n0_ n1_; clear hg hw hp_))
                                go_roundg k4
                                case measure => have := HJ4.out; have := HJ7.out; have := HK3.out; have := HK4.out; omega
                                case rel => exact ⟨(y125), (wrap64 (x10_3 + 1)), (by first | rfl | (simp; done) | (simp [*]; done)), H', ⟨by have := HJ4.out; have := HJ7.out; have := HK3.out; have := HK4.out; omega⟩, ⟨by (with_reducible repeat (first | apply Kd.R_alloc | apply Kd.R_drewN | apply Kd.R_drew)); exact HO_5.out⟩, ⟨by repeat (first | (with_reducible first | exact HB.out | apply below_alloc | apply pw_below_drewN | apply below_drew1) | exact HB.out)⟩⟩
                              · replace c17 := Bool.eq_false_iff.mpr c17
                                subst c17
                                have H1 : (spec_mlSun.l1 k4 a1 x5_4 ((rdOf ByteArray.empty l0 0).size : Int) (l0.length : Int) x8_7 x9_7 x10_3 (wrap64 (x11_4 + 1))) = some r := by rw [if_neg (show ¬ (false = true) by decide)] at H; exact H
                                clear H
                                have H := H1
                                clear H1
                                have H' := Aside0.mk H
                                clear H
                                obtain ⟨Ao22, co22, eo22⟩ := Kd.R_slice HO_5.out
                                subst eo22
                                have p124 : 0 ≤ ((ji13) : Int) := of_decide_eq_true (by first | (with_reducible assumption) | assumption)
                                have q124 : (ji13) < (x5_4.length : Int) := of_decide_eq_true (by first | (with_reducible assumption) | assumption)
                                obtain ⟨ad124, e124, hx124_0⟩ := Kd.at_bool (Kd.R_reads' HO_5.out).2.2 (ji13) p124 q124
                                (try rw [← Nbq16.out] at hx124_0)
                                cases e124
                                replace p124 := eq_true p124
                                replace q124 := eq_true q124
                                go_wp2
                                go_roundg k4
                                case measure => have := HJ4.out; have := HJ7.out; have := HK3.out; have := HK4.out; omega
                                case rel => exact ⟨(x5_4), (wrap64 (x11_4 + 1)), (by first | rfl | (simp; done) | (simp [*]; done)), H', ⟨by have := HJ4.out; have := HJ7.out; have := HK3.out; have := HK4.out; omega⟩, ⟨by (with_reducible repeat (first | apply Kd.R_alloc | apply Kd.R_drewN | apply Kd.R_drew)); exact HO_5.out⟩, ⟨by repeat (first | (with_reducible first | exact HB.out | apply below_alloc | apply pw_below_drewN | apply below_drew1) | exact HB.out)⟩⟩
                            · rw [if_neg c15] at H
                              exact absurd H (by simp)
                          · rw [if_neg c14] at H
                            exact absurd H (by simp)
                        · rw [if_neg c12] at H
                          have c12b0 : (a1.toList == ([100] : List UInt8)) = false := beq_eq_false_iff_ne.mpr c12
                          have c12b1 : (a1.toList != ([100] : List UInt8)) = true := bne_iff_ne.mpr c12
                          by_cases c23 : a1.toList = ([108] : List UInt8)
                          · rw [if_pos c23] at H
                            have c23b0 : (a1.toList == ([108] : List UInt8)) = true := beq_iff_eq.mpr c23
                            have c23b1 : (a1.toList != ([108] : List UInt8)) = false := bne_eq_false_iff_eq.mpr c23
                            clear c23
                            obtain ⟨ji24, hji24⟩ : ∃ j_ : Int, (wrap64 ((wrap64 (x10_3 * ((rdOf ByteArray.empty l0 0).size : Int))) + x11_4)) = j_ := ⟨_, rfl⟩
                            replace H : (if 0 ≤ (ji24) then (if (ji24) < (x5_4.length : Int) then (if rdOf false x5_4 (ji24) = true then (spec_mlSun.l0 k4 a1 (x5_4.set ((ji24) : Int).toNat false) ((rdOf ByteArray.empty l0 0).size : Int) (l0.length : Int) x8_7 x9_7 (wrap64 (x10_3 + 1))) else (spec_mlSun.l1 k4 a1 x5_4 ((rdOf ByteArray.empty l0 0).size : Int) (l0.length : Int) x8_7 x9_7 x10_3 (wrap64 (x11_4 + 1)))) else (none)) else (none)) = some r := by first | (rw [hji24] at H; exact H) | (simp only [hji24] at H ⊢; exact H)
                            have hji24w : (IntKind.i64.wrap ((wrap64 (x10_3 * ((rdOf ByteArray.empty l0 0).size : Int))) + x11_4)) = ji24 := (i64_w _).trans hji24
                            by_cases c25 : 0 ≤ (ji24)
                            · rw [if_pos c25] at H
                              have c25b0 : decide (0 ≤ (ji24)) = true := decide_eq_true c25
                              clear c25
                              by_cases c26 : (ji24) < (x5_4.length : Int)
                              · rw [if_pos c26] at H
                                have c26b0 : decide ((ji24) < (x5_4.length : Int)) = true := decide_eq_true c26
                                clear c26
                                obtain ⟨bq27, hbq27⟩ : ∃ b_ : Bool, b_ = (rdOf false x5_4 (ji24)) := ⟨_, rfl⟩
                                replace H : (if bq27 = true then (spec_mlSun.l0 k4 a1 (x5_4.set ((ji24) : Int).toNat false) ((rdOf ByteArray.empty l0 0).size : Int) (l0.length : Int) x8_7 x9_7 (wrap64 (x10_3 + 1))) else (spec_mlSun.l1 k4 a1 x5_4 ((rdOf ByteArray.empty l0 0).size : Int) (l0.length : Int) x8_7 x9_7 x10_3 (wrap64 (x11_4 + 1)))) = some r := by rw [← hbq27] at H; exact H
                                have Nbq27 := Aside0.mk hbq27
                                clear hbq27
                                by_cases c28 : bq27 = true
                                · subst c28
                                  have H1 : (spec_mlSun.l0 k4 a1 (x5_4.set ((ji24) : Int).toNat false) ((rdOf ByteArray.empty l0 0).size : Int) (l0.length : Int) x8_7 x9_7 (wrap64 (x10_3 + 1))) = some r := by rw [if_pos rfl] at H; exact H
                                  clear H
                                  have H := H1
                                  clear H1
                                  obtain ⟨y127, hy127⟩ : ∃ y_ : List Bool, y_ = (x5_4.set ((ji24) : Int).toNat false) := ⟨_, rfl⟩
                                  replace H : (spec_mlSun.l0 k4 a1 y127 ((rdOf ByteArray.empty l0 0).size : Int) (l0.length : Int) x8_7 x9_7 (wrap64 (x10_3 + 1))) = some r := by first | (rw [hy127]; with_reducible exact H) | (have H2_ := (Option.bind_some _ _).symm.trans H; rw [hy127]; with_reducible exact H2_) | (have H2_ := (Option.bind_some _ _).symm.trans H; with_reducible exact H2_) | with_reducible exact H | (rw [hy127]; exact H) | exact H
                                  have Ny127 := Aside0.mk hy127
                                  clear hy127
                                  have H' := Aside0.mk H
                                  clear H
                                  obtain ⟨Ao30, co30, eo30⟩ := Kd.R_slice HO_5.out
                                  subst eo30
                                  have p126 : 0 ≤ ((ji24) : Int) := of_decide_eq_true (by first | (with_reducible assumption) | assumption)
                                  have q126 : (ji24) < (x5_4.length : Int) := of_decide_eq_true (by first | (with_reducible assumption) | assumption)
                                  obtain ⟨ad126, e126, hx126_0⟩ := Kd.at_bool (Kd.R_reads' HO_5.out).2.2 (ji24) p126 q126
                                  (try rw [← Nbq27.out] at hx126_0)
                                  cases e126
                                  replace p126 := eq_true p126
                                  replace q126 := eq_true q126
                                  have p29 : 0 ≤ ((ji24) : Int) := of_decide_eq_true (by first | (with_reducible assumption) | assumption)
                                  have q29 : ((ji24) : Int) < ((x5_4.length : Int) : Int) := of_decide_eq_true (by first | (with_reducible assumption) | assumption)
                                  obtain ⟨go29, co29, eo29, gb29, gl29, cl29, HG29⟩ := Kd.R_form HO_5.out (by omega)
                                  (first | cases eo29 | (injection eo29 with ea_ en_ ec_; (first | subst ea_ | (injection ea_ with ea_; subst ea_)); subst ec_; clear en_))
                                  have GB29 := Aside0.mk gb29
                                  have GG29 := Aside0.mk HG29
                                  clear gb29 gl29 HG29
                                  (first | simp only [add_plain] at hx126_0 | skip)
                                  obtain ⟨hx29_0, hf29_0⟩ := Kd.R_celln false HO_5.out ((ji24) : Int) p29 q29
                                  replace p29 := eq_true p29
                                  replace q29 := eq_true q29
                                  have HP31 := Kd.R_putg HO_5.out ((ji24) : Int) false
                                  go_wp2_with (first | ((with_reducible refine gate_store (t := 4) (p := 76) rfl ?_); refine store_event (t := 4) (p := 76) (v := ?vo_w32) (w1 := (wr.setCell ⟨go29, ((ji24) : Int).toNat, none⟩ (.bool false))) ?hg ?ho ?hn ?hr ?_; (case ho => rfl); (case hg => rfl); (case hn => rfl); (case hr => first | (go_simp; done) | (go_simp; rfl)); intro w32 hw; have hg : wr.grownBy w32 (some go29) := (by rw [hw]; exact HP31.2); have hp_ : Kd.R Kd.bool 4 w32 w.heap.size (fun _ => True) (.slice (some ⟨go29, 0, none⟩) x5_4.length co30) y127 := (by rw [hw, Ny127.out]; exact HP31.1); clear HP31; have n0_ := Aside0.mk (hp_); have n1_ := Aside0.mk ((by rw [hw]; exact below_set (HB.out) GB29.out : Below w.heap.size w w32)); clear HO_5; clear HB; have HO_5 := n0_; have HB := n1_; clear n0_ n1_; clear hg hw hp_))
                                  go_roundg k4
                                  case measure => have := HJ4.out; have := HJ7.out; have := HK3.out; have := HK4.out; omega
                                  case rel => exact ⟨(y127), (wrap64 (x10_3 + 1)), (by first | rfl | (simp; done) | (simp [*]; done)), H', ⟨by have := HJ4.out; have := HJ7.out; have := HK3.out; have := HK4.out; omega⟩, ⟨by (with_reducible repeat (first | apply Kd.R_alloc | apply Kd.R_drewN | apply Kd.R_drew)); exact HO_5.out⟩, ⟨by repeat (first | (with_reducible first | exact HB.out | apply below_alloc | apply pw_below_drewN | apply below_drew1) | exact HB.out)⟩⟩
                                · replace c28 := Bool.eq_false_iff.mpr c28
                                  subst c28
                                  have H1 : (spec_mlSun.l1 k4 a1 x5_4 ((rdOf ByteArray.empty l0 0).size : Int) (l0.length : Int) x8_7 x9_7 x10_3 (wrap64 (x11_4 + 1))) = some r := by rw [if_neg (show ¬ (false = true) by decide)] at H; exact H
                                  clear H
                                  have H := H1
                                  clear H1
                                  have H' := Aside0.mk H
                                  clear H
                                  obtain ⟨Ao33, co33, eo33⟩ := Kd.R_slice HO_5.out
                                  subst eo33
                                  have p126 : 0 ≤ ((ji24) : Int) := of_decide_eq_true (by first | (with_reducible assumption) | assumption)
                                  have q126 : (ji24) < (x5_4.length : Int) := of_decide_eq_true (by first | (with_reducible assumption) | assumption)
                                  obtain ⟨ad126, e126, hx126_0⟩ := Kd.at_bool (Kd.R_reads' HO_5.out).2.2 (ji24) p126 q126
                                  (try rw [← Nbq27.out] at hx126_0)
                                  cases e126
                                  replace p126 := eq_true p126
                                  replace q126 := eq_true q126
                                  go_wp2
                                  go_roundg k4
                                  case measure => have := HJ4.out; have := HJ7.out; have := HK3.out; have := HK4.out; omega
                                  case rel => exact ⟨(x5_4), (wrap64 (x11_4 + 1)), (by first | rfl | (simp; done) | (simp [*]; done)), H', ⟨by have := HJ4.out; have := HJ7.out; have := HK3.out; have := HK4.out; omega⟩, ⟨by (with_reducible repeat (first | apply Kd.R_alloc | apply Kd.R_drewN | apply Kd.R_drew)); exact HO_5.out⟩, ⟨by repeat (first | (with_reducible first | exact HB.out | apply below_alloc | apply pw_below_drewN | apply below_drew1) | exact HB.out)⟩⟩
                              · rw [if_neg c26] at H
                                exact absurd H (by simp)
                            · rw [if_neg c25] at H
                              exact absurd H (by simp)
                          · rw [if_neg c23] at H
                            have c23b0 : (a1.toList == ([108] : List UInt8)) = false := beq_eq_false_iff_ne.mpr c23
                            have c23b1 : (a1.toList != ([108] : List UInt8)) = true := bne_iff_ne.mpr c23
                            by_cases c34 : a1.toList = ([114] : List UInt8)
                            · rw [if_pos c34] at H
                              have c34b0 : (a1.toList == ([114] : List UInt8)) = true := beq_iff_eq.mpr c34
                              have c34b1 : (a1.toList != ([114] : List UInt8)) = false := bne_eq_false_iff_eq.mpr c34
                              clear c34
                              obtain ⟨ji35, hji35⟩ : ∃ j_ : Int, (wrap64 ((wrap64 (x10_3 * ((rdOf ByteArray.empty l0 0).size : Int))) + (wrap64 ((wrap64 (((rdOf ByteArray.empty l0 0).size : Int) - 1)) - x11_4)))) = j_ := ⟨_, rfl⟩
                              replace H : (if 0 ≤ (ji35) then (if (ji35) < (x5_4.length : Int) then (if rdOf false x5_4 (ji35) = true then (spec_mlSun.l0 k4 a1 (x5_4.set ((ji35) : Int).toNat false) ((rdOf ByteArray.empty l0 0).size : Int) (l0.length : Int) x8_7 x9_7 (wrap64 (x10_3 + 1))) else (spec_mlSun.l1 k4 a1 x5_4 ((rdOf ByteArray.empty l0 0).size : Int) (l0.length : Int) x8_7 x9_7 x10_3 (wrap64 (x11_4 + 1)))) else (none)) else (none)) = some r := by first | (rw [hji35] at H; exact H) | (simp only [hji35] at H ⊢; exact H)
                              have hji35w : (IntKind.i64.wrap ((wrap64 (x10_3 * ((rdOf ByteArray.empty l0 0).size : Int))) + (wrap64 ((wrap64 (((rdOf ByteArray.empty l0 0).size : Int) - 1)) - x11_4)))) = ji35 := (i64_w _).trans hji35
                              by_cases c36 : 0 ≤ (ji35)
                              · rw [if_pos c36] at H
                                have c36b0 : decide (0 ≤ (ji35)) = true := decide_eq_true c36
                                clear c36
                                by_cases c37 : (ji35) < (x5_4.length : Int)
                                · rw [if_pos c37] at H
                                  have c37b0 : decide ((ji35) < (x5_4.length : Int)) = true := decide_eq_true c37
                                  clear c37
                                  obtain ⟨bq38, hbq38⟩ : ∃ b_ : Bool, b_ = (rdOf false x5_4 (ji35)) := ⟨_, rfl⟩
                                  replace H : (if bq38 = true then (spec_mlSun.l0 k4 a1 (x5_4.set ((ji35) : Int).toNat false) ((rdOf ByteArray.empty l0 0).size : Int) (l0.length : Int) x8_7 x9_7 (wrap64 (x10_3 + 1))) else (spec_mlSun.l1 k4 a1 x5_4 ((rdOf ByteArray.empty l0 0).size : Int) (l0.length : Int) x8_7 x9_7 x10_3 (wrap64 (x11_4 + 1)))) = some r := by rw [← hbq38] at H; exact H
                                  have Nbq38 := Aside0.mk hbq38
                                  clear hbq38
                                  by_cases c39 : bq38 = true
                                  · subst c39
                                    have H1 : (spec_mlSun.l0 k4 a1 (x5_4.set ((ji35) : Int).toNat false) ((rdOf ByteArray.empty l0 0).size : Int) (l0.length : Int) x8_7 x9_7 (wrap64 (x10_3 + 1))) = some r := by rw [if_pos rfl] at H; exact H
                                    clear H
                                    have H := H1
                                    clear H1
                                    obtain ⟨y129, hy129⟩ : ∃ y_ : List Bool, y_ = (x5_4.set ((ji35) : Int).toNat false) := ⟨_, rfl⟩
                                    replace H : (spec_mlSun.l0 k4 a1 y129 ((rdOf ByteArray.empty l0 0).size : Int) (l0.length : Int) x8_7 x9_7 (wrap64 (x10_3 + 1))) = some r := by first | (rw [hy129]; with_reducible exact H) | (have H2_ := (Option.bind_some _ _).symm.trans H; rw [hy129]; with_reducible exact H2_) | (have H2_ := (Option.bind_some _ _).symm.trans H; with_reducible exact H2_) | with_reducible exact H | (rw [hy129]; exact H) | exact H
                                    have Ny129 := Aside0.mk hy129
                                    clear hy129
                                    have H' := Aside0.mk H
                                    clear H
                                    obtain ⟨Ao41, co41, eo41⟩ := Kd.R_slice HO_5.out
                                    subst eo41
                                    have p128 : 0 ≤ ((ji35) : Int) := of_decide_eq_true (by first | (with_reducible assumption) | assumption)
                                    have q128 : (ji35) < (x5_4.length : Int) := of_decide_eq_true (by first | (with_reducible assumption) | assumption)
                                    obtain ⟨ad128, e128, hx128_0⟩ := Kd.at_bool (Kd.R_reads' HO_5.out).2.2 (ji35) p128 q128
                                    (try rw [← Nbq38.out] at hx128_0)
                                    cases e128
                                    replace p128 := eq_true p128
                                    replace q128 := eq_true q128
                                    have p40 : 0 ≤ ((ji35) : Int) := of_decide_eq_true (by first | (with_reducible assumption) | assumption)
                                    have q40 : ((ji35) : Int) < ((x5_4.length : Int) : Int) := of_decide_eq_true (by first | (with_reducible assumption) | assumption)
                                    obtain ⟨go40, co40, eo40, gb40, gl40, cl40, HG40⟩ := Kd.R_form HO_5.out (by omega)
                                    (first | cases eo40 | (injection eo40 with ea_ en_ ec_; (first | subst ea_ | (injection ea_ with ea_; subst ea_)); subst ec_; clear en_))
                                    have GB40 := Aside0.mk gb40
                                    have GG40 := Aside0.mk HG40
                                    clear gb40 gl40 HG40
                                    (first | simp only [add_plain] at hx128_0 | skip)
                                    obtain ⟨hx40_0, hf40_0⟩ := Kd.R_celln false HO_5.out ((ji35) : Int) p40 q40
                                    replace p40 := eq_true p40
                                    replace q40 := eq_true q40
                                    have HP42 := Kd.R_putg HO_5.out ((ji35) : Int) false
                                    go_wp2_with (first | ((with_reducible refine gate_store (t := 4) (p := 76) rfl ?_); refine store_event (t := 4) (p := 76) (v := ?vo_w43) (w1 := (wr.setCell ⟨go40, ((ji35) : Int).toNat, none⟩ (.bool false))) ?hg ?ho ?hn ?hr ?_; (case ho => rfl); (case hg => rfl); (case hn => rfl); (case hr => first | (go_simp; done) | (go_simp; rfl)); intro w43 hw; have hg : wr.grownBy w43 (some go40) := (by rw [hw]; exact HP42.2); have hp_ : Kd.R Kd.bool 4 w43 w.heap.size (fun _ => True) (.slice (some ⟨go40, 0, none⟩) x5_4.length co41) y129 := (by rw [hw, Ny129.out]; exact HP42.1); clear HP42; have n0_ := Aside0.mk (hp_); have n1_ := Aside0.mk ((by rw [hw]; exact below_set (HB.out) GB40.out : Below w.heap.size w w43)); clear HO_5; clear HB; have HO_5 := n0_; have HB := n1_; clear n0_ n1_; clear hg hw hp_))
                                    go_roundg k4
                                    case measure => have := HJ4.out; have := HJ7.out; have := HK3.out; have := HK4.out; omega
                                    case rel => exact ⟨(y129), (wrap64 (x10_3 + 1)), (by first | rfl | (simp; done) | (simp [*]; done)), H', ⟨by have := HJ4.out; have := HJ7.out; have := HK3.out; have := HK4.out; omega⟩, ⟨by (with_reducible repeat (first | apply Kd.R_alloc | apply Kd.R_drewN | apply Kd.R_drew)); exact HO_5.out⟩, ⟨by repeat (first | (with_reducible first | exact HB.out | apply below_alloc | apply pw_below_drewN | apply below_drew1) | exact HB.out)⟩⟩
                                  · replace c39 := Bool.eq_false_iff.mpr c39
                                    subst c39
                                    have H1 : (spec_mlSun.l1 k4 a1 x5_4 ((rdOf ByteArray.empty l0 0).size : Int) (l0.length : Int) x8_7 x9_7 x10_3 (wrap64 (x11_4 + 1))) = some r := by rw [if_neg (show ¬ (false = true) by decide)] at H; exact H
                                    clear H
                                    have H := H1
                                    clear H1
                                    have H' := Aside0.mk H
                                    clear H
                                    obtain ⟨Ao44, co44, eo44⟩ := Kd.R_slice HO_5.out
                                    subst eo44
                                    have p128 : 0 ≤ ((ji35) : Int) := of_decide_eq_true (by first | (with_reducible assumption) | assumption)
                                    have q128 : (ji35) < (x5_4.length : Int) := of_decide_eq_true (by first | (with_reducible assumption) | assumption)
                                    obtain ⟨ad128, e128, hx128_0⟩ := Kd.at_bool (Kd.R_reads' HO_5.out).2.2 (ji35) p128 q128
                                    (try rw [← Nbq38.out] at hx128_0)
                                    cases e128
                                    replace p128 := eq_true p128
                                    replace q128 := eq_true q128
                                    go_wp2
                                    go_roundg k4
                                    case measure => have := HJ4.out; have := HJ7.out; have := HK3.out; have := HK4.out; omega
                                    case rel => exact ⟨(x5_4), (wrap64 (x11_4 + 1)), (by first | rfl | (simp; done) | (simp [*]; done)), H', ⟨by have := HJ4.out; have := HJ7.out; have := HK3.out; have := HK4.out; omega⟩, ⟨by (with_reducible repeat (first | apply Kd.R_alloc | apply Kd.R_drewN | apply Kd.R_drew)); exact HO_5.out⟩, ⟨by repeat (first | (with_reducible first | exact HB.out | apply below_alloc | apply pw_below_drewN | apply below_drew1) | exact HB.out)⟩⟩
                                · rw [if_neg c37] at H
                                  exact absurd H (by simp)
                              · rw [if_neg c36] at H
                                exact absurd H (by simp)
                            · rw [if_neg c34] at H
                              have c34b0 : (a1.toList == ([114] : List UInt8)) = false := beq_eq_false_iff_ne.mpr c34
                              have c34b1 : (a1.toList != ([114] : List UInt8)) = true := bne_iff_ne.mpr c34
                              obtain ⟨ji45, hji45⟩ : ∃ j_ : Int, (wrap64 ((wrap64 (x11_4 * ((rdOf ByteArray.empty l0 0).size : Int))) + x10_3)) = j_ := ⟨_, rfl⟩
                              replace H : (if 0 ≤ (ji45) then (if (ji45) < (x5_4.length : Int) then (if rdOf false x5_4 (ji45) = true then (spec_mlSun.l0 k4 a1 (x5_4.set ((ji45) : Int).toNat false) ((rdOf ByteArray.empty l0 0).size : Int) (l0.length : Int) x8_7 x9_7 (wrap64 (x10_3 + 1))) else (spec_mlSun.l1 k4 a1 x5_4 ((rdOf ByteArray.empty l0 0).size : Int) (l0.length : Int) x8_7 x9_7 x10_3 (wrap64 (x11_4 + 1)))) else (none)) else (none)) = some r := by first | (rw [hji45] at H; exact H) | (simp only [hji45] at H ⊢; exact H)
                              have hji45w : (IntKind.i64.wrap ((wrap64 (x11_4 * ((rdOf ByteArray.empty l0 0).size : Int))) + x10_3)) = ji45 := (i64_w _).trans hji45
                              by_cases c46 : 0 ≤ (ji45)
                              · rw [if_pos c46] at H
                                have c46b0 : decide (0 ≤ (ji45)) = true := decide_eq_true c46
                                clear c46
                                by_cases c47 : (ji45) < (x5_4.length : Int)
                                · rw [if_pos c47] at H
                                  have c47b0 : decide ((ji45) < (x5_4.length : Int)) = true := decide_eq_true c47
                                  clear c47
                                  obtain ⟨bq48, hbq48⟩ : ∃ b_ : Bool, b_ = (rdOf false x5_4 (ji45)) := ⟨_, rfl⟩
                                  replace H : (if bq48 = true then (spec_mlSun.l0 k4 a1 (x5_4.set ((ji45) : Int).toNat false) ((rdOf ByteArray.empty l0 0).size : Int) (l0.length : Int) x8_7 x9_7 (wrap64 (x10_3 + 1))) else (spec_mlSun.l1 k4 a1 x5_4 ((rdOf ByteArray.empty l0 0).size : Int) (l0.length : Int) x8_7 x9_7 x10_3 (wrap64 (x11_4 + 1)))) = some r := by rw [← hbq48] at H; exact H
                                  have Nbq48 := Aside0.mk hbq48
                                  clear hbq48
                                  by_cases c49 : bq48 = true
                                  · subst c49
                                    have H1 : (spec_mlSun.l0 k4 a1 (x5_4.set ((ji45) : Int).toNat false) ((rdOf ByteArray.empty l0 0).size : Int) (l0.length : Int) x8_7 x9_7 (wrap64 (x10_3 + 1))) = some r := by rw [if_pos rfl] at H; exact H
                                    clear H
                                    have H := H1
                                    clear H1
                                    obtain ⟨y131, hy131⟩ : ∃ y_ : List Bool, y_ = (x5_4.set ((ji45) : Int).toNat false) := ⟨_, rfl⟩
                                    replace H : (spec_mlSun.l0 k4 a1 y131 ((rdOf ByteArray.empty l0 0).size : Int) (l0.length : Int) x8_7 x9_7 (wrap64 (x10_3 + 1))) = some r := by first | (rw [hy131]; with_reducible exact H) | (have H2_ := (Option.bind_some _ _).symm.trans H; rw [hy131]; with_reducible exact H2_) | (have H2_ := (Option.bind_some _ _).symm.trans H; with_reducible exact H2_) | with_reducible exact H | (rw [hy131]; exact H) | exact H
                                    have Ny131 := Aside0.mk hy131
                                    clear hy131
                                    have H' := Aside0.mk H
                                    clear H
                                    obtain ⟨Ao51, co51, eo51⟩ := Kd.R_slice HO_5.out
                                    subst eo51
                                    have p130 : 0 ≤ ((ji45) : Int) := of_decide_eq_true (by first | (with_reducible assumption) | assumption)
                                    have q130 : (ji45) < (x5_4.length : Int) := of_decide_eq_true (by first | (with_reducible assumption) | assumption)
                                    obtain ⟨ad130, e130, hx130_0⟩ := Kd.at_bool (Kd.R_reads' HO_5.out).2.2 (ji45) p130 q130
                                    (try rw [← Nbq48.out] at hx130_0)
                                    cases e130
                                    replace p130 := eq_true p130
                                    replace q130 := eq_true q130
                                    have p50 : 0 ≤ ((ji45) : Int) := of_decide_eq_true (by first | (with_reducible assumption) | assumption)
                                    have q50 : ((ji45) : Int) < ((x5_4.length : Int) : Int) := of_decide_eq_true (by first | (with_reducible assumption) | assumption)
                                    obtain ⟨go50, co50, eo50, gb50, gl50, cl50, HG50⟩ := Kd.R_form HO_5.out (by omega)
                                    (first | cases eo50 | (injection eo50 with ea_ en_ ec_; (first | subst ea_ | (injection ea_ with ea_; subst ea_)); subst ec_; clear en_))
                                    have GB50 := Aside0.mk gb50
                                    have GG50 := Aside0.mk HG50
                                    clear gb50 gl50 HG50
                                    (first | simp only [add_plain] at hx130_0 | skip)
                                    obtain ⟨hx50_0, hf50_0⟩ := Kd.R_celln false HO_5.out ((ji45) : Int) p50 q50
                                    replace p50 := eq_true p50
                                    replace q50 := eq_true q50
                                    have HP52 := Kd.R_putg HO_5.out ((ji45) : Int) false
                                    go_wp2_with (first | ((with_reducible refine gate_store (t := 4) (p := 76) rfl ?_); refine store_event (t := 4) (p := 76) (v := ?vo_w53) (w1 := (wr.setCell ⟨go50, ((ji45) : Int).toNat, none⟩ (.bool false))) ?hg ?ho ?hn ?hr ?_; (case ho => rfl); (case hg => rfl); (case hn => rfl); (case hr => first | (go_simp; done) | (go_simp; rfl)); intro w53 hw; have hg : wr.grownBy w53 (some go50) := (by rw [hw]; exact HP52.2); have hp_ : Kd.R Kd.bool 4 w53 w.heap.size (fun _ => True) (.slice (some ⟨go50, 0, none⟩) x5_4.length co51) y131 := (by rw [hw, Ny131.out]; exact HP52.1); clear HP52; have n0_ := Aside0.mk (hp_); have n1_ := Aside0.mk ((by rw [hw]; exact below_set (HB.out) GB50.out : Below w.heap.size w w53)); clear HO_5; clear HB; have HO_5 := n0_; have HB := n1_; clear n0_ n1_; clear hg hw hp_))
                                    go_roundg k4
                                    case measure => have := HJ4.out; have := HJ7.out; have := HK3.out; have := HK4.out; omega
                                    case rel => exact ⟨(y131), (wrap64 (x10_3 + 1)), (by first | rfl | (simp; done) | (simp [*]; done)), H', ⟨by have := HJ4.out; have := HJ7.out; have := HK3.out; have := HK4.out; omega⟩, ⟨by (with_reducible repeat (first | apply Kd.R_alloc | apply Kd.R_drewN | apply Kd.R_drew)); exact HO_5.out⟩, ⟨by repeat (first | (with_reducible first | exact HB.out | apply below_alloc | apply pw_below_drewN | apply below_drew1) | exact HB.out)⟩⟩
                                  · replace c49 := Bool.eq_false_iff.mpr c49
                                    subst c49
                                    have H1 : (spec_mlSun.l1 k4 a1 x5_4 ((rdOf ByteArray.empty l0 0).size : Int) (l0.length : Int) x8_7 x9_7 x10_3 (wrap64 (x11_4 + 1))) = some r := by rw [if_neg (show ¬ (false = true) by decide)] at H; exact H
                                    clear H
                                    have H := H1
                                    clear H1
                                    have H' := Aside0.mk H
                                    clear H
                                    obtain ⟨Ao54, co54, eo54⟩ := Kd.R_slice HO_5.out
                                    subst eo54
                                    have p130 : 0 ≤ ((ji45) : Int) := of_decide_eq_true (by first | (with_reducible assumption) | assumption)
                                    have q130 : (ji45) < (x5_4.length : Int) := of_decide_eq_true (by first | (with_reducible assumption) | assumption)
                                    obtain ⟨ad130, e130, hx130_0⟩ := Kd.at_bool (Kd.R_reads' HO_5.out).2.2 (ji45) p130 q130
                                    (try rw [← Nbq48.out] at hx130_0)
                                    cases e130
                                    replace p130 := eq_true p130
                                    replace q130 := eq_true q130
                                    go_wp2
                                    go_roundg k4
                                    case measure => have := HJ4.out; have := HJ7.out; have := HK3.out; have := HK4.out; omega
                                    case rel => exact ⟨(x5_4), (wrap64 (x11_4 + 1)), (by first | rfl | (simp; done) | (simp [*]; done)), H', ⟨by have := HJ4.out; have := HJ7.out; have := HK3.out; have := HK4.out; omega⟩, ⟨by (with_reducible repeat (first | apply Kd.R_alloc | apply Kd.R_drewN | apply Kd.R_drew)); exact HO_5.out⟩, ⟨by repeat (first | (with_reducible first | exact HB.out | apply below_alloc | apply pw_below_drewN | apply below_drew1) | exact HB.out)⟩⟩
                                · rw [if_neg c47] at H
                                  exact absurd H (by simp)
                              · rw [if_neg c46] at H
                                exact absurd H (by simp)
                      · rw [if_neg c11] at H
                        have c11b0 : decide (x11_4 < x9_7) = false := decide_eq_false c11
                        clear c11
                        have H' := Aside0.mk H
                        clear H
                        go_wp2
                        go_roundg k4
                        case measure => have := HJ4.out; have := HJ7.out; have := HK3.out; have := HK4.out; omega
                        case rel => exact ⟨(x5_4), (wrap64 (x10_3 + 1)), (by first | rfl | (simp; done) | (simp [*]; done)), H', ⟨by have := HJ4.out; have := HJ7.out; have := HK3.out; have := HK4.out; omega⟩, ⟨by (with_reducible repeat (first | apply Kd.R_alloc | apply Kd.R_drewN | apply Kd.R_drew)); exact HO_5.out⟩, ⟨by repeat (first | (with_reducible first | exact HB.out | apply below_alloc | apply pw_below_drewN | apply below_drew1) | exact HB.out)⟩⟩
                · rw [if_neg c10] at H
                  have c10b0 : decide (x10_3 < x8_7) = false := decide_eq_false c10
                  clear c10
                  replace H := Option.bind_eq_some_iff.mp H
                  obtain ⟨t121, A550, H⟩ := H
                  replace H : (some t121) = some r := H
                  have A55 := Aside0.mk A550
                  clear A550
                  obtain rfl := Option.some.inj H
                  obtain ⟨Ao56, co56, eo56⟩ := Kd.R_slice HO_5.out
                  subst eo56
                  go_wp2_with (first | ((with_reducible refine gate_callee (f := 51) rfl ?_); refine goesL_ (some 79) rfl rfl Tryd.func51 (by kernel_rfl) rfl #[.int .i64 ((rdOf ByteArray.empty l0 0).size : Int), .slice Ao56 x5_3.length co56] rfl (by (try simp only [List.map_toArray, List.map_cons, List.map_nil]); first | done | rfl | (simp only [List.length_drop, List.length_take]; rfl)) ?_; (with_reducible refine (spec_mlOf.calls k3 ((rdOf ByteArray.empty l0 0).size : Int) _ _ x5_3 t121 _ ?side1 ?side2 A55.out).mono ?_); (case side1 => repeat (first | exact (Kd.R_reads' HO_5.out).2.2 | (with_reducible refine Kd.C_alloc ?_ _) | (with_reducible refine Kd.C_drewN ?_ _) | (with_reducible refine Kd.C_drew ?_))); (case side2 => exact (Kd.R_reads' HO_5.out).2.1); rintro e w57 ⟨v122, rfl, ho0, hb⟩; refine ⟨_, rfl, ?_⟩; have n0_ := Aside0.mk (Kd.R_below (by (with_reducible repeat (first | apply Kd.R_alloc | apply Kd.R_drewN | apply Kd.R_drew)); exact HO_5.out) hb); have n1_ := Aside0.mk (Kd.R_lower ho0 (below_size (by repeat (first | (with_reducible first | exact HB.out | apply below_alloc | apply pw_below_drewN | apply below_drew1) | exact HB.out)))); have n2_ := Aside0.mk (below_step (by repeat (first | (with_reducible first | exact HB.out | apply below_alloc | apply pw_below_drewN | apply below_drew1) | exact HB.out)) hb); clear HO_5; clear HB; have HO_5 := n0_; have HO123 := n1_; have HB := n2_; clear n0_ n1_ n2_; (try clear hb); (try clear hb2); (try clear hk); (try clear hi); (try clear ho0)))
                  go_ret
                  exact ⟨_, by first | rfl | (simp [errW_none, errW_some] <;> rfl) | (simp [*, errW_none, errW_some] <;> rfl), by (with_reducible repeat (first | apply Kd.R_alloc | apply Kd.R_drewN | apply Kd.R_drew)); exact HO123.out, by repeat (first | (with_reducible first | exact HB.out | apply below_alloc | apply pw_below_drewN | apply below_drew1) | exact HB.out)⟩
  · rw [if_neg c4] at H
    exact absurd H (by simp)

end Go.Proofs.YtaocnjaeaiacmaaDoor.R
