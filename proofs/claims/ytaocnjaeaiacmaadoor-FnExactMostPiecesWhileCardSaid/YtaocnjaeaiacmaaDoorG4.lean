-- Laid by a program of this session (wip/pp.py) over the seat's translation, with its own texts for some functions.
import Derived.Test.YtaocnjaeaiacmaaDoorG0
import Derived.Test.YtaocnjaeaiacmaaDoorG3
namespace Go.Proofs.YtaocnjaeaiacmaaDoor.G
open Go.RowKit Go.Proofs.YtaocnjaeaiacmaaDoorW.PrintWords Go.Proofs.YtaocnjaeaiacmaaDoorW.PrintLast Go.Proofs.YtaocnjaeaiacmaaDoorW.PrintMore
attribute [local go_sem] max2_int min2_int max_two min_two max_three min_three max_four min_four   -- for this text's walks alone
set_option linter.unusedVariables false
set_option linter.unusedSimpArgs false

/-! ### spec_mlPieces: function 46 -/
mutual
def spec_mlPieces.l0 : Nat → List ByteArray → List Int → List Bool → Int → Int → Int → Option (List Int)
 | 0, _, _, _, _, _, _ => none
 | k + 1, x0, x3, x4, x5, x23, x24 => if x24 < x23 then (if 0 ≤ x24 then (if x24 < (x4.length : Int) then (if rdOf false x4 x24 = true then (spec_mlPieces.l1 k x0 x3 (x4.set (x24 : Int).toNat false) x5 (([x24] : List Int)) 0 x23 x24) else (spec_mlPieces.l0 k x0 x3 x4 x5 x23 (wrap64 (x24 + 1)))) else (none)) else (none)) else (some x3)
def spec_mlPieces.l1 : Nat → List ByteArray → List Int → List Bool → Int → List Int → Int → Int → Int → Option (List Int)
 | 0, _, _, _, _, _, _, _, _ => none
 | k + 1, x0, x3, x4, x5, x7, x8, x23, x24 => if x8 < (x7.length : Int) then (if 0 ≤ x8 then (if x5 = 0 then (none) else (spec_mlPieces.l2 k x0 x3 x4 x5 x7 x8 (Int.tmod (rd x7 x8) x5) (wrap64 (Int.tdiv (rd x7 x8) x5)) 0 x23 x24)) else (none)) else (spec_mlPieces.l3 k x0 x3 x4 x5 x7 (x3.length : Int) x23 x24)
def spec_mlPieces.l2 : Nat → List ByteArray → List Int → List Bool → Int → List Int → Int → Int → Int → Int → Int → Int → Option (List Int)
 | 0, _, _, _, _, _, _, _, _, _, _, _ => none
 | k + 1, x0, x3, x4, x5, x7, x8, x9, x10, x11, x23, x24 => if x11 < 4 then ((some (([0, 1, 0, (-1)] : List Int) : List Int)).bind fun y141 => (if 0 ≤ x11 then (if x11 < (y141.length : Int) then ((some (([(-1), 0, 1, 0] : List Int) : List Int)).bind fun y145 => (if x11 < (y145.length : Int) then ((spec_mlAt.f x0 (wrap64 (x9 + (rd y141 x11))) (wrap64 (x10 + (rd y145 x11)))).bind fun t149 => (if t149 = true then (if 0 ≤ (wrap64 ((wrap64 ((wrap64 (x10 + (rd y145 x11))) * x5)) + (wrap64 (x9 + (rd y141 x11))))) then (if (wrap64 ((wrap64 ((wrap64 (x10 + (rd y145 x11))) * x5)) + (wrap64 (x9 + (rd y141 x11))))) < (x4.length : Int) then (if rdOf false x4 (wrap64 ((wrap64 ((wrap64 (x10 + (rd y145 x11))) * x5)) + (wrap64 (x9 + (rd y141 x11))))) = true then (if x7.length < 17592186044416 then (spec_mlPieces.l2 k x0 x3 (x4.set ((wrap64 ((wrap64 ((wrap64 (x10 + (rd y145 x11))) * x5)) + (wrap64 (x9 + (rd y141 x11))))) : Int).toNat false) x5 (x7 ++ [wrap64 ((wrap64 ((wrap64 (x10 + (rd y145 x11))) * x5)) + (wrap64 (x9 + (rd y141 x11))))]) x8 x9 x10 (wrap64 (x11 + 1)) x23 x24) else (none)) else (spec_mlPieces.l2 k x0 x3 x4 x5 x7 x8 x9 x10 (wrap64 (x11 + 1)) x23 x24)) else (none)) else (none)) else (spec_mlPieces.l2 k x0 x3 x4 x5 x7 x8 x9 x10 (wrap64 (x11 + 1)) x23 x24))) else (none))) else (none)) else (none))) else (spec_mlPieces.l1 k x0 x3 x4 x5 x7 (wrap64 (x8 + 1)) x23 x24)
def spec_mlPieces.l3 : Nat → List ByteArray → List Int → List Bool → Int → List Int → Int → Int → Int → Option (List Int)
 | 0, _, _, _, _, _, _, _, _ => none
 | k + 1, x0, x3, x4, x5, x7, x14, x23, x24 => if x14 > 0 then (if 0 ≤ (wrap64 (x14 - 1)) then (if (wrap64 (x14 - 1)) < (x3.length : Int) then (if (rd x3 (wrap64 (x14 - 1))) < (x7.length : Int) then (spec_mlPieces.l3 k x0 x3 x4 x5 x7 (wrap64 (x14 - 1)) x23 x24) else (if 0 ≤ x14 then (if x14 ≤ (x3.length : Int) then ((spec_l1Own.f (x3.take (x14 : Int).toNat)).bind fun t160 => (if t160.length < 17592186044416 then ((some (t160 ++ [(x7.length : Int)] : List Int)).bind fun y163 => ((some (x3.drop (x14 : Int).toNat : List Int)).bind fun y166 => (if y163.length + y166.length < 17592186044416 then (spec_mlPieces.l0 k x0 (y163 ++ y166) x4 x5 x23 (wrap64 (x24 + 1))) else (none)))) else (none))) else (none)) else (none))) else (none)) else (none)) else (if 0 ≤ x14 then (if x14 ≤ (x3.length : Int) then ((spec_l1Own.f (x3.take (x14 : Int).toNat)).bind fun t177 => (if t177.length < 17592186044416 then ((some (t177 ++ [(x7.length : Int)] : List Int)).bind fun y180 => ((some (x3.drop (x14 : Int).toNat : List Int)).bind fun y183 => (if y180.length + y183.length < 17592186044416 then (spec_mlPieces.l0 k x0 (y180 ++ y183) x4 x5 x23 (wrap64 (x24 + 1))) else (none)))) else (none))) else (none)) else (none))
end
def spec_mlPieces.f (k : Nat) (l0 : List ByteArray) : Option (List Int) := (spec_mlIs.f k l0).bind fun t130 => (if 0 < (l0.length : Int) then (spec_mlPieces.l0 k l0 ([] : List Int) t130 ((rdOf ByteArray.empty l0 0).size : Int) (t130.length : Int) 0) else (none))
theorem spec_mlPieces.mono_l : ∀ k, (∀ y0 y1 y2 y3 y4 y5, LeO (spec_mlPieces.l0 k y0 y1 y2 y3 y4 y5) (spec_mlPieces.l0 (k + 1) y0 y1 y2 y3 y4 y5)) ∧ (∀ y0 y1 y2 y3 y4 y5 y6 y7, LeO (spec_mlPieces.l1 k y0 y1 y2 y3 y4 y5 y6 y7) (spec_mlPieces.l1 (k + 1) y0 y1 y2 y3 y4 y5 y6 y7)) ∧ (∀ y0 y1 y2 y3 y4 y5 y6 y7 y8 y9 y10, LeO (spec_mlPieces.l2 k y0 y1 y2 y3 y4 y5 y6 y7 y8 y9 y10) (spec_mlPieces.l2 (k + 1) y0 y1 y2 y3 y4 y5 y6 y7 y8 y9 y10)) ∧ (∀ y0 y1 y2 y3 y4 y5 y6 y7, LeO (spec_mlPieces.l3 k y0 y1 y2 y3 y4 y5 y6 y7) (spec_mlPieces.l3 (k + 1) y0 y1 y2 y3 y4 y5 y6 y7))
 | 0 => ⟨fun _ _ _ _ _ _ r h => by simp [spec_mlPieces.l0] at h, fun _ _ _ _ _ _ _ _ r h => by simp [spec_mlPieces.l1] at h, fun _ _ _ _ _ _ _ _ _ _ _ r h => by simp [spec_mlPieces.l2] at h, fun _ _ _ _ _ _ _ _ r h => by simp [spec_mlPieces.l3] at h⟩
 | k + 1 => by
  obtain ⟨ih0, ih1, ih2, ih3⟩ := spec_mlPieces.mono_l k
  refine ⟨?_, ?_, ?_, ?_⟩
  ·intro y0 y1 y2 y3 y4 y5
   unfold spec_mlPieces.l0
   repeat' first
   | (with_reducible exact ih0 _ _ _ _ _ _)
   | (with_reducible exact ih1 _ _ _ _ _ _ _ _)
   | (with_reducible exact ih2 _ _ _ _ _ _ _ _ _ _ _)
   | (with_reducible exact ih3 _ _ _ _ _ _ _ _)
   | (with_reducible exact spec_mlIs.mono _ _)
   | (with_reducible exact LeO.refl _)
   | (with_reducible exact LeO.none _)
   | (with_reducible refine LeO.ite ?_ ?_)
   | (with_reducible refine LeO.bind ?_ (fun _ => ?_))
   | exact ih0 _ _ _ _ _ _
   | exact ih1 _ _ _ _ _ _ _ _
   | exact ih2 _ _ _ _ _ _ _ _ _ _ _
   | exact ih3 _ _ _ _ _ _ _ _
   | exact spec_mlIs.mono _ _
   | exact LeO.none _
   | refine LeO.ite ?_ ?_
   | refine LeO.bind ?_ (fun _ => ?_)
  ·intro y0 y1 y2 y3 y4 y5 y6 y7
   unfold spec_mlPieces.l1
   repeat' first
   | (with_reducible exact ih0 _ _ _ _ _ _)
   | (with_reducible exact ih1 _ _ _ _ _ _ _ _)
   | (with_reducible exact ih2 _ _ _ _ _ _ _ _ _ _ _)
   | (with_reducible exact ih3 _ _ _ _ _ _ _ _)
   | (with_reducible exact spec_mlIs.mono _ _)
   | (with_reducible exact LeO.refl _)
   | (with_reducible exact LeO.none _)
   | (with_reducible refine LeO.ite ?_ ?_)
   | (with_reducible refine LeO.bind ?_ (fun _ => ?_))
   | exact ih0 _ _ _ _ _ _
   | exact ih1 _ _ _ _ _ _ _ _
   | exact ih2 _ _ _ _ _ _ _ _ _ _ _
   | exact ih3 _ _ _ _ _ _ _ _
   | exact spec_mlIs.mono _ _
   | exact LeO.none _
   | refine LeO.ite ?_ ?_
   | refine LeO.bind ?_ (fun _ => ?_)
  ·intro y0 y1 y2 y3 y4 y5 y6 y7 y8 y9 y10
   unfold spec_mlPieces.l2
   repeat' first
   | (with_reducible exact ih0 _ _ _ _ _ _)
   | (with_reducible exact ih1 _ _ _ _ _ _ _ _)
   | (with_reducible exact ih2 _ _ _ _ _ _ _ _ _ _ _)
   | (with_reducible exact ih3 _ _ _ _ _ _ _ _)
   | (with_reducible exact spec_mlIs.mono _ _)
   | (with_reducible exact LeO.refl _)
   | (with_reducible exact LeO.none _)
   | (with_reducible refine LeO.ite ?_ ?_)
   | (with_reducible refine LeO.bind ?_ (fun _ => ?_))
   | exact ih0 _ _ _ _ _ _
   | exact ih1 _ _ _ _ _ _ _ _
   | exact ih2 _ _ _ _ _ _ _ _ _ _ _
   | exact ih3 _ _ _ _ _ _ _ _
   | exact spec_mlIs.mono _ _
   | exact LeO.none _
   | refine LeO.ite ?_ ?_
   | refine LeO.bind ?_ (fun _ => ?_)
  ·intro y0 y1 y2 y3 y4 y5 y6 y7
   unfold spec_mlPieces.l3
   repeat' first
   | (with_reducible exact ih0 _ _ _ _ _ _)
   | (with_reducible exact ih1 _ _ _ _ _ _ _ _)
   | (with_reducible exact ih2 _ _ _ _ _ _ _ _ _ _ _)
   | (with_reducible exact ih3 _ _ _ _ _ _ _ _)
   | (with_reducible exact spec_mlIs.mono _ _)
   | (with_reducible exact LeO.refl _)
   | (with_reducible exact LeO.none _)
   | (with_reducible refine LeO.ite ?_ ?_)
   | (with_reducible refine LeO.bind ?_ (fun _ => ?_))
   | exact ih0 _ _ _ _ _ _
   | exact ih1 _ _ _ _ _ _ _ _
   | exact ih2 _ _ _ _ _ _ _ _ _ _ _
   | exact ih3 _ _ _ _ _ _ _ _
   | exact spec_mlIs.mono _ _
   | exact LeO.none _
   | refine LeO.ite ?_ ?_
   | refine LeO.bind ?_ (fun _ => ?_)
theorem spec_mlPieces.mono : ∀ a0 k, LeO (spec_mlPieces.f k a0) (spec_mlPieces.f (k + 1) a0) := by
 intro a0 k
 obtain ⟨ih0, ih1, ih2, ih3⟩ := spec_mlPieces.mono_l k
 unfold spec_mlPieces.f
 repeat' first
   | (with_reducible exact ih0 _ _ _ _ _ _)
   | (with_reducible exact ih1 _ _ _ _ _ _ _ _)
   | (with_reducible exact ih2 _ _ _ _ _ _ _ _ _ _ _)
   | (with_reducible exact ih3 _ _ _ _ _ _ _ _)
   | (with_reducible exact spec_mlIs.mono _ _)
   | (with_reducible exact LeO.refl _)
   | (with_reducible exact LeO.none _)
   | (with_reducible refine LeO.ite ?_ ?_)
   | (with_reducible refine LeO.bind ?_ (fun _ => ?_))
   | exact ih0 _ _ _ _ _ _
   | exact ih1 _ _ _ _ _ _ _ _
   | exact ih2 _ _ _ _ _ _ _ _ _ _ _
   | exact ih3 _ _ _ _ _ _ _ _
   | exact spec_mlIs.mono _ _
   | exact LeO.none _
   | refine LeO.ite ?_ ?_
   | refine LeO.bind ?_ (fun _ => ?_)
def spec_mlPieces.T13 : Bool × List (List Nat × List Nat) := (true, [([], []), ([], []), ([0, 1], [0, 1]), ([2], [2]), ([], []), ([3, 4], [3, 4]), ([], []), ([], []), ([6, 7], [6, 7]), ([8], [8]), ([], []), ([9, 10], [9, 10]), ([5, 0, 1, 2, 3, 4, 5], [5]), ([11, 12, 0, 1, 2, 3, 4, 5, 6, 7, 8, 9, 10, 11, 12], [11])])
def spec_mlPieces.B13 : List Nat := [0, 0, 3, 7, 0, 31, 0, 0, 192, 448, 0, 1984, 63, 8191]
theorem spec_mlPieces.tab13 : rtab .any (opsOf Tryd.f46 13) = spec_mlPieces.T13 := by kernel_rfl
theorem spec_mlPieces.bits13 : waitsOk spec_mlPieces.T13.2 spec_mlPieces.B13 = true := by kernel_rfl
def spec_mlPieces.T17 : Bool × List (List Nat × List Nat) := (true, [([], []), ([], []), ([], []), ([1, 2], [1, 2]), ([3], [3]), ([0, 4], [0, 4]), ([], []), ([], []), ([], []), ([7, 8], [7, 8]), ([9], [9]), ([6, 10], [6, 10]), ([5, 0, 1, 2, 3, 4, 5], [5]), ([11, 12, 0, 1, 2, 3, 4, 5, 6, 7, 8, 9, 10, 11, 12], [11])])
def spec_mlPieces.B17 : List Nat := [0, 0, 0, 6, 14, 31, 0, 0, 0, 384, 896, 1984, 63, 8191]
theorem spec_mlPieces.tab17 : rtab .any (opsOf Tryd.f46 17) = spec_mlPieces.T17 := by kernel_rfl
theorem spec_mlPieces.bits17 : waitsOk spec_mlPieces.T17.2 spec_mlPieces.B17 = true := by kernel_rfl
set_option maxHeartbeats 8000000 in
set_option maxRecDepth 100000 in
theorem spec_mlPieces.calls (k : Nat) (A0 : Option Addr) (c0 : Nat) (l0 : List ByteArray) (r : List Int) (w : World) (hr0 : Kd.C Kd.string w A0 l0.length l0) (hc0 : l0.length ≤ c0) (h : spec_mlPieces.f k l0 = some r) :
  Calls Tryd.prog 46 #[.slice A0 l0.length c0] w fun e w' => ∃ v0_ : Value, e = .returned (v0_) ∧ Kd.R (Kd.int .i64) 3 w' w.heap.size (fun _ => True) v0_ r ∧ Below w.heap.size w w' := by
 have HR0 := Aside0.mk hr0
 have HC0 := Aside0.mk hc0
 clear hr0 hc0
 have HB := Aside0.mk (Below.refl w.heap.size w)
 have H : ((spec_mlIs.f k l0).bind fun t130 => (if 0 < (l0.length : Int) then (spec_mlPieces.l0 k l0 ([] : List Int) t130 ((rdOf ByteArray.empty l0 0).size : Int) (t130.length : Int) 0) else (none))) = some r := h
 clear h
 replace H := Option.bind_eq_some_iff.mp H
 obtain ⟨t130, A20, H⟩ := H
 replace H : (if 0 < (l0.length : Int) then (spec_mlPieces.l0 k l0 ([] : List Int) t130 ((rdOf ByteArray.empty l0 0).size : Int) (t130.length : Int) 0) else (none)) = some r := H
 have A2 := Aside0.mk A20
 clear A20
 by_cases c3 : 0 < (l0.length : Int)
 ·rw [if_pos c3] at H
  have c3b0 : decide (0 < (l0.length : Int)) = true := decide_eq_true c3
  have c3b1 : decide (0 < l0.length) = true := decide_eq_true (by omega)
  clear c3
  have H' := Aside0.mk H
  clear H
  go_enter Tryd.func46, Tryd.ntmps46
  go_wp2_with (first | ((with_reducible refine gate_callee (f := 50) rfl ?_); refine goesL_ (some 17) rfl rfl Tryd.func50 (by kernel_rfl) rfl #[.slice A0 l0.length c0] rfl (by (try simp only [List.map_toArray, List.map_cons, List.map_nil]); first | done | rfl | (simp only [List.length_drop, List.length_take]; rfl)) ?_; (with_reducible refine (spec_mlIs.calls k _ _ l0 t130 _ ?side1 ?side2 A2.out).mono ?_); (case side1 => repeat (first | exact HR0.out | (with_reducible refine Kd.C_alloc ?_ _) | (with_reducible refine Kd.C_drewN ?_ _) | (with_reducible refine Kd.C_drew ?_))); (case side2 => exact HC0.out); rintro e w4 ⟨v131, rfl, ho0, hb⟩; refine ⟨_, rfl, ?_⟩; have n0_ := Aside0.mk (Kd.R_lower ho0 (below_size (by repeat (first | (with_reducible first | exact HB.out | apply below_alloc | apply pw_below_drewN | apply below_drew1) | exact HB.out)))); have n1_ := Aside0.mk (below_step (by repeat (first | (with_reducible first | exact HB.out | apply below_alloc | apply pw_below_drewN | apply below_drew1) | exact HB.out)) hb); clear HB; have HO132 := n0_; have HB := n1_; clear n0_ n1_; (try clear hb); (try clear hb2); (try clear hk); (try clear hi); (try clear ho0); have p133 : 0 ≤ (0 : Int) := (by omega); have q133 : 0 < (l0.length : Int) := of_decide_eq_true (by first | (with_reducible assumption) | assumption); obtain ⟨ad133, e133, hx133_0⟩ := Kd.at_string HR0.out 0 p133 q133; cases e133; have qi133 : (0 < l0.length) = True := eq_true (by omega); (try rw [show ((0 : Int)).toNat = 0 from rfl] at hx133_0); (try rw [Addr.add_zero'] at hx133_0); replace hx133_0 := (HB.out.cell (World.block_lt_of_cell? w _ hx133_0)).trans hx133_0; replace p133 := eq_true p133; replace q133 := eq_true q133; obtain ⟨Ao5, co5, eo5⟩ := Kd.R_slice HO132.out; subst eo5))
  go_loopg [3, 24] k (fun kq v3 v24 w' => ∃ (x3_1 : List Int) (x4_1 : List Bool) (x24_1 : Int), v24 = .int .i64 x24_1 ∧ Aside0 (spec_mlPieces.l0 kq l0 x3_1 x4_1 ((rdOf ByteArray.empty l0 0).size : Int) (t130.length : Int) x24_1 = some r) ∧ Aside0 (kq ≤ k) ∧ Aside0 (Kd.R (Kd.int .i64) 3 w' w.heap.size (fun _ => True) v3 x3_1) ∧ Aside0 (Kd.R Kd.bool 4 w' w.heap.size (fun _ => True) (.slice Ao5 t130.length co5) x4_1) ∧ Aside0 (Below w.heap.size w w'))
  case atStart => exact ⟨(([] : List Int)), (t130), (0), (by first | rfl | (simp; done) | (simp [*]; done)), H', ⟨Nat.le_refl _⟩, ⟨by first | exact Kd.R_nil _ _ _ _ _ | exact Kd.N_nil _ _ _ _ _ | exact Kd.V_nil _ _ _ _ _ | exact Kd.Q_nil _ _ _ _ _ | exact Kd.S_nil _ _ _ _ _⟩, ⟨by (with_reducible repeat (first | apply Kd.R_alloc | apply Kd.R_drewN | apply Kd.R_drew)); exact HO132.out⟩, ⟨by repeat (first | (with_reducible first | exact HB.out | apply below_alloc | apply pw_below_drewN | apply below_drew1) | exact HB.out)⟩⟩
  case round =>
   clear H'
   try clear p1
   try clear q1
   try clear hx1
   try clear qi1
   try clear p2
   try clear c3
   try clear c3b0
   try clear c3b1
   try clear c4
   try clear c5
   try clear hx133_0
   try clear p133
   try clear q133
   obtain ⟨x3_1, x4_1, x24_1, rfl, HA, HK1, HO_3, HO_4, HB⟩ := hrel
   have hl4_1 := (Kd.R_reads' HO_4.out).1
   rw [hl4_1] at HO_4
   (try simp only [hl4_1])
   (try simp only [hl4_1] at HO_3)
   cases gk with
   | zero => exact absurd HA.out (by simp [spec_mlPieces.l0])
   | succ k1 =>
    have H := HA.out
    clear HA
    simp only [spec_mlPieces.l0] at H
    by_cases c6 : x24_1 < (t130.length : Int)
    ·rw [if_pos c6] at H
     have c6b0 : decide (x24_1 < (t130.length : Int)) = true := decide_eq_true c6
     clear c6
     by_cases c7 : 0 ≤ x24_1
     ·rw [if_pos c7] at H
      have c7b0 : decide (0 ≤ x24_1) = true := decide_eq_true c7
      clear c7
      by_cases c8 : x24_1 < (x4_1.length : Int)
      ·rw [if_pos c8] at H
       have c8b0 : decide (x24_1 < (x4_1.length : Int)) = true := decide_eq_true c8
       clear c8
       obtain ⟨bq9, hbq9⟩ : ∃ b_ : Bool, b_ = (rdOf false x4_1 x24_1) := ⟨_, rfl⟩
       replace H : (if bq9 = true then (spec_mlPieces.l1 k1 l0 x3_1 (x4_1.set (x24_1 : Int).toNat false) ((rdOf ByteArray.empty l0 0).size : Int) (([x24_1] : List Int)) 0 (t130.length : Int) x24_1) else (spec_mlPieces.l0 k1 l0 x3_1 x4_1 ((rdOf ByteArray.empty l0 0).size : Int) (t130.length : Int) (wrap64 (x24_1 + 1)))) = some r := by rw [← hbq9] at H; exact H
       have Nbq9 := Aside0.mk hbq9
       clear hbq9
       by_cases c10 : bq9 = true
       ·subst c10
        have H1 : (spec_mlPieces.l1 k1 l0 x3_1 (x4_1.set (x24_1 : Int).toNat false) ((rdOf ByteArray.empty l0 0).size : Int) (([x24_1] : List Int)) 0 (t130.length : Int) x24_1) = some r := by rw [if_pos rfl] at H; exact H
        clear H
        have H := H1
        clear H1
        obtain ⟨y135, hy135⟩ : ∃ y_ : List Bool, y_ = (x4_1.set (x24_1 : Int).toNat false) := ⟨_, rfl⟩
        replace H : (spec_mlPieces.l1 k1 l0 x3_1 y135 ((rdOf ByteArray.empty l0 0).size : Int) (([x24_1] : List Int)) 0 (t130.length : Int) x24_1) = some r := by first | (rw [hy135]; with_reducible exact H) | (have H2_ := (Option.bind_some _ _).symm.trans H; rw [hy135]; with_reducible exact H2_) | (have H2_ := (Option.bind_some _ _).symm.trans H; with_reducible exact H2_) | with_reducible exact H | (rw [hy135]; exact H) | exact H
        have Ny135 := Aside0.mk hy135
        clear hy135
        obtain ⟨y136, hy136⟩ : ∃ y_ : List Int, y_ = (([x24_1] : List Int)) := ⟨_, rfl⟩
        replace H : (spec_mlPieces.l1 k1 l0 x3_1 y135 ((rdOf ByteArray.empty l0 0).size : Int) y136 0 (t130.length : Int) x24_1) = some r := by first | (rw [hy136]; with_reducible exact H) | (have H2_ := (Option.bind_some _ _).symm.trans H; rw [hy136]; with_reducible exact H2_) | (have H2_ := (Option.bind_some _ _).symm.trans H; with_reducible exact H2_) | with_reducible exact H | (rw [hy136]; exact H) | exact H
        have Ny136 := Aside0.mk hy136
        clear hy136
        have H' := Aside0.mk H
        clear H
        have p134 : 0 ≤ (x24_1 : Int) := of_decide_eq_true (by first | (with_reducible assumption) | assumption)
        have q134 : x24_1 < (x4_1.length : Int) := of_decide_eq_true (by first | (with_reducible assumption) | assumption)
        obtain ⟨ad134, e134, hx134_0⟩ := Kd.at_bool (Kd.R_reads' HO_4.out).2.2 x24_1 p134 q134
        (try rw [← Nbq9.out] at hx134_0)
        cases e134
        replace p134 := eq_true p134
        replace q134 := eq_true q134
        have p11 : 0 ≤ (x24_1 : Int) := of_decide_eq_true (by first | (with_reducible assumption) | assumption)
        have q11 : (x24_1 : Int) < ((x4_1.length : Int) : Int) := of_decide_eq_true (by first | (with_reducible assumption) | assumption)
        obtain ⟨go11, co11, eo11, gb11, gl11, cl11, HG11⟩ := Kd.R_form HO_4.out (by omega)
        (first | cases eo11 | (injection eo11 with ea_ en_ ec_; (first | subst ea_ | (injection ea_ with ea_; subst ea_)); subst ec_; clear en_))
        have GB11 := Aside0.mk gb11
        have GG11 := Aside0.mk HG11
        clear gb11 gl11 HG11
        (first | simp only [add_plain] at hx134_0 | skip)
        obtain ⟨hx11_0, hf11_0⟩ := Kd.R_celln false HO_4.out (x24_1 : Int) p11 q11
        replace p11 := eq_true p11
        replace q11 := eq_true q11
        have HP12 := Kd.R_putg HO_4.out (x24_1 : Int) false
        go_wp2_with (first | ((with_reducible refine gate_store (t := 4) (p := 34) rfl ?_); refine store_event (t := 4) (p := 34) (v := ?vo_w13) (w1 := (wr.setCell ⟨go11, (x24_1 : Int).toNat, none⟩ (.bool false))) ?hg ?ho ?hn ?hr ?_; (case ho => rfl); (case hg => rfl); (case hn => rfl); (case hr => first | (go_simp; done) | (go_simp; rfl)); intro w13 hw; have hg : wr.grownBy w13 (some go11) := (by rw [hw]; exact HP12.2); have hp_ : Kd.R Kd.bool 4 w13 w.heap.size (fun _ => True) (.slice (some ⟨go11, 0, none⟩) x4_1.length co5) y135 := (by rw [hw, Ny135.out]; exact HP12.1); clear HP12; have n0_ := Aside0.mk (Kd.R_over' (v := (.slice (some ⟨go11, 0, none⟩) x4_1.length co5)) (by (with_reducible repeat (first | apply Kd.R_alloc | apply Kd.R_drewN | apply Kd.R_drew)); exact HO_3.out) (Kd.R_typed HO_4.out) (by decide) hg); have n1_ := Aside0.mk (hp_); have n2_ := Aside0.mk ((by rw [hw]; exact below_set (HB.out) GB11.out : Below w.heap.size w w13)); clear HO_3; clear HO_4; clear HB; have HO_3 := n0_; have HO_4 := n1_; have HB := n2_; clear n0_ n1_ n2_; clear hg hw hp_) | ((with_reducible refine gate_dst (N := 36) rfl ?_); (try (refine gate_guard (by rfl) ?_; dsimp only)); refine Kd.R_lit (Kd.int .i64) _ 3 ?hg (N := 36) ?hd (xs := ([x24_1] : List Int)) (inner := [.int .i64 x24_1]) (ok := fun _ => True) (okp := fun _ => True) ?hr ?hp (fun _ hk => hk) trivial (Below.refl _ _) (Nat.le_refl _) (by simp) ?_; (case hd => rfl); (case hg => rfl); (case hr => first | (go_simp; done) | (go_simp; rfl)); (case hp => exact (Reps.one (show Kd.M (Kd.int .i64) _ _ _ x24_1 [.int .i64 x24_1] from rfl) (Reps.none _ _))); intro v137 w14 ho15 hb hg_ hnew_; clear hg_ hnew_; (first | rw [← Ny136.out] at ho15 | (simp only [Int.reduceToNat] at ho15; rw [← Ny136.out] at ho15)); have n0_ := Aside0.mk (Kd.R_elder' (by (with_reducible repeat (first | apply Kd.R_alloc | apply Kd.R_drewN | apply Kd.R_drew)); exact HO_3.out) (Kd.R_base ho15) hb); have n1_ := Aside0.mk (Kd.R_below (by (with_reducible repeat (first | apply Kd.R_alloc | apply Kd.R_drewN | apply Kd.R_drew)); exact HO_4.out) hb); have n2_ := Aside0.mk (Kd.R_lower (Kd.R_new' ho15 (Kd.R_lt (by (with_reducible repeat (first | apply Kd.R_alloc | apply Kd.R_drewN | apply Kd.R_drew)); exact HO_3.out))) (below_size (by repeat (first | (with_reducible first | exact HB.out | apply below_alloc | apply pw_below_drewN | apply below_drew1) | exact HB.out)))); have n3_ := Aside0.mk (below_step (by repeat (first | (with_reducible first | exact HB.out | apply below_alloc | apply pw_below_drewN | apply below_drew1) | exact HB.out)) hb); clear HO_3; clear HO_4; clear HB; have HO_3 := n0_; have HO_4 := n1_; have HO138 := n2_; have HB := n3_; clear n0_ n1_ n2_ n3_; clear hb ho15))
        go_loopg [7, 8] k1 (fun kq v7 v8 w' => ∃ (x4_2 : List Bool) (x7_2 : List Int) (x8_2 : Int), v8 = .int .i64 x8_2 ∧ Aside0 (spec_mlPieces.l1 kq l0 x3_1 x4_2 ((rdOf ByteArray.empty l0 0).size : Int) x7_2 x8_2 (t130.length : Int) x24_1 = some r) ∧ Aside0 (kq ≤ k1) ∧ Aside0 (Kd.R (Kd.int .i64) 3 w' w.heap.size (fun k_ => some k_ ≠ (v7 : Value).ownBlock) u3 x3_1) ∧ Aside0 (Kd.R Kd.bool 4 w' w.heap.size (fun _ => True) (.slice (some ⟨go11, 0, none⟩) x4_1.length co5) x4_2) ∧ Aside0 (Kd.R (Kd.int .i64) 3 w' w.heap.size (fun k_ => some k_ ≠ (u3 : Value).ownBlock) v7 x7_2) ∧ Aside0 (Below w.heap.size w w'))
        case atStart => exact ⟨(y135), (y136), (0), (by first | rfl | (simp; done) | (simp [*]; done)), H', ⟨Nat.le_refl _⟩, ⟨by (try simp only [hl4_1]); (with_reducible repeat (first | apply Kd.R_alloc | apply Kd.R_drewN | apply Kd.R_drew)); exact Kd.R_mono HO_3.out (fun _ hk => hk.2)⟩, ⟨by (try simp only [hl4_1]); (with_reducible repeat (first | apply Kd.R_alloc | apply Kd.R_drewN | apply Kd.R_drew)); exact HO_4.out⟩, ⟨by (try simp only [hl4_1]); (with_reducible repeat (first | apply Kd.R_alloc | apply Kd.R_drewN | apply Kd.R_drew)); exact Kd.R_mono HO138.out (fun _ hk => hk.2)⟩, ⟨by repeat (first | (with_reducible first | exact HB.out | apply below_alloc | apply pw_below_drewN | apply below_drew1) | exact HB.out)⟩⟩
        case round =>
         clear H'
         try clear c1
         try clear p1
         try clear q1
         try clear hx1
         try clear qi1
         try clear hf1
         try clear p2
         try clear c3
         try clear c3b0
         try clear c3b1
         try clear c4
         try clear c5
         try clear c6
         try clear c6b0
         try clear p6
         try clear c7
         try clear c7b0
         try clear c8
         try clear c8b0
         try clear q9
         try clear c10
         try clear p11
         try clear q11
         try clear hx11
         try clear hf11
         try clear p13
         try clear q13
         try clear hx13
         try clear qi13
         try clear hx11_0
         try clear hx133_0
         try clear hx134_0
         try clear p1
         try clear p11
         try clear p133
         try clear p134
         try clear p2
         try clear q1
         try clear q11
         try clear q133
         try clear q134
         obtain ⟨x4_2, x7_2, x8_2, rfl, HA, HK2, HO_3, HO_4, HO_7, HB⟩ := hrel
         have hl4_2 := (Kd.R_reads' HO_4.out).1
         rw [hl4_2] at HO_4
         (try simp only [hl4_2])
         (try simp only [hl4_2] at HO_3)
         (try simp only [hl4_2] at HO_7)
         cases gk with
         | zero => exact absurd HA.out (by simp [spec_mlPieces.l1])
         | succ k2 =>
          have H := HA.out
          clear HA
          simp only [spec_mlPieces.l1] at H
          by_cases c16 : x8_2 < (x7_2.length : Int)
          ·rw [if_pos c16] at H
           have c16b0 : decide (x8_2 < (x7_2.length : Int)) = true := decide_eq_true c16
           clear c16
           by_cases c17 : 0 ≤ x8_2
           ·rw [if_pos c17] at H
            have c17b0 : decide (0 ≤ x8_2) = true := decide_eq_true c17
            clear c17
            by_cases c18 : ((rdOf ByteArray.empty l0 0).size : Int) = 0
            ·rw [if_pos c18] at H
             exact absurd H (by simp)
            ·rw [if_neg c18] at H
             have c18b0 : (((rdOf ByteArray.empty l0 0).size : Int) == 0) = false := beq_eq_false_iff_ne.mpr c18
             have c18zb_ : (rdOf ByteArray.empty l0 0 = ByteArray.empty) = False := eq_false (fun e_ => c18 (by rw [e_]; rfl))
             have c18b1 : (((rdOf ByteArray.empty l0 0).size : Int) != 0) = true := bne_iff_ne.mpr c18
             have H' := Aside0.mk H
             clear H
             obtain ⟨Ao19, co19, eo19⟩ := Kd.R_slice HO_7.out
             subst eo19
             try go_wp2
             have n0_ := Aside0.mk (Kd.R_drew HO_3.out)
             have n1_ := Aside0.mk (Kd.R_drew HO_4.out)
             have n2_ := Aside0.mk (Kd.R_drew HO_7.out)
             have n3_ := Aside0.mk (below_drew1 HB.out)
             clear HO_3
             clear HO_4
             clear HO_7
             clear HB
             have HO_3 := n0_
             have HO_4 := n1_
             have HO_7 := n2_
             have HB := n3_
             clear n0_ n1_ n2_ n3_
             have p139 : 0 ≤ (x8_2 : Int) := of_decide_eq_true (by first | (with_reducible assumption) | assumption)
             have q139 : x8_2 < (x7_2.length : Int) := of_decide_eq_true (by first | (with_reducible assumption) | assumption)
             obtain ⟨ad139, e139, hx139_0⟩ := Kd.at_int (Kd.R_reads' HO_7.out).2.2 x8_2 p139 q139
             cases e139
             replace p139 := eq_true p139
             replace q139 := eq_true q139
             have p140 : 0 ≤ (x8_2 : Int) := of_decide_eq_true (by first | (with_reducible assumption) | assumption)
             have q140 : x8_2 < (x7_2.length : Int) := of_decide_eq_true (by first | (with_reducible assumption) | assumption)
             obtain ⟨ad140, e140, hx140_0⟩ := Kd.at_int (Kd.R_reads' HO_7.out).2.2 x8_2 p140 q140
             obtain rfl : ad139 = ad140 := (by injection e140)
             replace p140 := eq_true p140
             replace q140 := eq_true q140
             refine start_ (n := 14) (S := fun w' => w'.cell? (ad139.add (x8_2).toNat) = some (.int .i64 (rd x7_2 x8_2)) ∧ w'.cell? (ad139.add (x8_2).toNat) = some (.int .i64 (rd x7_2 x8_2))) (ds := []) #[false, false, false, false, false, false, false, false, false, false, false, false, false, false] (by kernel_rfl) rfl rfl ⟨hx139_0, hx140_0⟩ (fun hHeld => ?_); refine with_tabW spec_mlPieces.tab13 spec_mlPieces.bits13 (fun HT_ HW_ => ?_)
             generalize wr.drew = w20 at HO_3 HO_4 HO_7 HB hx139_0 hx140_0 hHeld ⊢
             refine pure_ (i := 0) (N := some 43) (v := ?_) (a' := ?_) #[true, false, false, false, false, false, false, false, false, false, false, false, false, false] rfl rfl (any_of HT_.out (by kernel_rfl)) (fun _ _ _ h => h) (Or.inl ⟨by rfl, ?_⟩) ?_ ?_
             rotate_left
             ·intro w'
              go_simp
              with_reducible rfl
             rotate_left
             ·simp only [Act.put, List.setIfInBounds_toArray, List.set_cons_zero, List.set_cons_succ, i64_w, i32_w]
              rfl
             refine pure_ (i := 1) (N := some 44) (v := ?_) (a' := ?_) #[true, true, false, false, false, false, false, false, false, false, false, false, false, false] rfl rfl (any_of HT_.out (by kernel_rfl)) (fun _ _ _ h => h) (Or.inl ⟨by rfl, ?_⟩) ?_ ?_
             rotate_left
             ·intro w'
              go_simp
              with_reducible rfl
             rotate_left
             ·simp only [Act.put, List.setIfInBounds_toArray, List.set_cons_zero, List.set_cons_succ, i64_w, i32_w]
              rfl
             refine pure_ (i := 2) (N := some 45) (v := ?_) (a' := ?_) #[true, true, true, false, false, false, false, false, false, false, false, false, false, false] rfl rfl (any_of HT_.out (by kernel_rfl)) (fun _ _ _ h => h) (Or.inl ⟨by rfl, ?_⟩) ?_ ?_
             rotate_left
             ·intro w'
              go_simp
              with_reducible rfl
             rotate_left
             ·simp only [Act.put, List.setIfInBounds_toArray, List.set_cons_zero, List.set_cons_succ, i64_w, i32_w]
              rfl
             refine pure_ (i := 4) (N := some 47) (v := ?_) (a' := ?_) #[true, true, true, false, true, false, false, false, false, false, false, false, false, false] rfl rfl (any_of HT_.out (by kernel_rfl)) (fun _ _ _ h => h) (Or.inl ⟨by rfl, ?_⟩) ?_ ?_
             rotate_left
             ·intro w'
              go_simp
              with_reducible rfl
             rotate_left
             ·simp only [Act.put, List.setIfInBounds_toArray, List.set_cons_zero, List.set_cons_succ, i64_w, i32_w]
              rfl
             refine pure_ (i := 6) (N := some 49) (v := ?_) (a' := ?_) #[true, true, true, false, true, false, true, false, false, false, false, false, false, false] rfl rfl (any_of HT_.out (by kernel_rfl)) (fun _ _ _ h => h) (Or.inl ⟨by rfl, ?_⟩) ?_ ?_
             rotate_left
             ·intro w'
              go_simp
              with_reducible rfl
             rotate_left
             ·simp only [Act.put, List.setIfInBounds_toArray, List.set_cons_zero, List.set_cons_succ, i64_w, i32_w]
              rfl
             refine pure_ (i := 7) (N := some 50) (v := ?_) (a' := ?_) #[true, true, true, false, true, false, true, true, false, false, false, false, false, false] rfl rfl (any_of HT_.out (by kernel_rfl)) (fun _ _ _ h => h) (Or.inl ⟨by rfl, ?_⟩) ?_ ?_
             rotate_left
             ·intro w'
              go_simp
              with_reducible rfl
             rotate_left
             ·simp only [Act.put, List.setIfInBounds_toArray, List.set_cons_zero, List.set_cons_succ, i64_w, i32_w]
              rfl
             refine pure_ (i := 8) (N := some 51) (v := ?_) (a' := ?_) #[true, true, true, false, true, false, true, true, true, false, false, false, false, false] rfl rfl (any_of HT_.out (by kernel_rfl)) (fun _ _ _ h => h) (Or.inl ⟨by rfl, ?_⟩) ?_ ?_
             rotate_left
             ·intro w'
              go_simp
              with_reducible rfl
             rotate_left
             ·simp only [Act.put, List.setIfInBounds_toArray, List.set_cons_zero, List.set_cons_succ, i64_w, i32_w]
              rfl
             refine pure_ (i := 10) (N := some 53) (v := ?_) (a' := ?_) #[true, true, true, false, true, false, true, true, true, false, true, false, false, false] rfl rfl (any_of HT_.out (by kernel_rfl)) (fun _ _ _ h => h) (Or.inl ⟨by rfl, ?_⟩) ?_ ?_
             rotate_left
             ·intro w'
              go_simp
              with_reducible rfl
             rotate_left
             ·simp only [Act.put, List.setIfInBounds_toArray, List.set_cons_zero, List.set_cons_succ, i64_w, i32_w]
              rfl
             refine take_ (i := 3) (N := some 46) (v := ?_) (a' := ?_) #[true, true, true, true, true, false, true, true, true, false, true, false, false, false] rfl rfl (take_ofW HT_.out HW_.out (by kernel_rfl)) (fun _ _ _ h => h) (Or.inl ⟨by rfl, ?_⟩) hHeld ?_ ?_
             rotate_left
             ·rintro w' ⟨s0, s1⟩
              go_simp
              with_reducible rfl
             rotate_left
             ·simp only [Act.put, List.setIfInBounds_toArray, List.set_cons_zero, List.set_cons_succ, i64_w, i32_w]
              rfl
             refine pure_ (i := 5) (N := some 48) (v := ?_) (a' := ?_) #[true, true, true, true, true, true, true, true, true, false, true, false, false, false] rfl rfl (any_of HT_.out (by kernel_rfl)) (fun _ _ _ h => h) (Or.inl ⟨by rfl, ?_⟩) ?_ ?_
             rotate_left
             ·intro w'
              go_simp
              with_reducible rfl
             rotate_left
             ·simp only [Act.put, List.setIfInBounds_toArray, List.set_cons_zero, List.set_cons_succ, i64_w, i32_w]
              rfl
             refine pure_ (i := 12) (N := some 9) (v := ?_) (a' := ?_) #[true, true, true, true, true, true, true, true, true, false, true, false, true, false] rfl rfl (any_of HT_.out (by kernel_rfl)) (fun _ _ _ h => h) (Or.inl ⟨by rfl, ?_⟩) ?_ ?_
             rotate_left
             ·intro w'
              go_simp
              with_reducible rfl
             rotate_left
             ·simp only [Act.put, List.setIfInBounds_toArray, List.set_cons_zero, List.set_cons_succ, i64_w, i32_w]
              rfl
             refine take_ (i := 9) (N := some 52) (v := ?_) (a' := ?_) #[true, true, true, true, true, true, true, true, true, true, true, false, true, false] rfl rfl (take_ofW HT_.out HW_.out (by kernel_rfl)) (fun _ _ _ h => h) (Or.inl ⟨by rfl, ?_⟩) hHeld ?_ ?_
             rotate_left
             ·rintro w' ⟨s0, s1⟩
              go_simp
              with_reducible rfl
             rotate_left
             ·simp only [Act.put, List.setIfInBounds_toArray, List.set_cons_zero, List.set_cons_succ, i64_w, i32_w]
              rfl
             refine pure_ (i := 11) (N := some 54) (v := ?_) (a' := ?_) #[true, true, true, true, true, true, true, true, true, true, true, true, true, false] rfl rfl (any_of HT_.out (by kernel_rfl)) (fun _ _ _ h => h) (Or.inl ⟨by rfl, ?_⟩) ?_ ?_
             rotate_left
             ·intro w'
              go_simp
              with_reducible rfl
             rotate_left
             ·simp only [Act.put, List.setIfInBounds_toArray, List.set_cons_zero, List.set_cons_succ, i64_w, i32_w]
              rfl
             refine pure_ (i := 13) (N := some 10) (v := ?_) (a' := ?_) #[true, true, true, true, true, true, true, true, true, true, true, true, true, true] rfl rfl (any_of HT_.out (by kernel_rfl)) (fun _ _ _ h => h) (Or.inl ⟨by rfl, ?_⟩) ?_ ?_
             rotate_left
             ·intro w'
              go_simp
              with_reducible rfl
             rotate_left
             ·simp only [Act.put, List.setIfInBounds_toArray, List.set_cons_zero, List.set_cons_succ, i64_w, i32_w]
              rfl
             refine done_ (done_of HT_.out (by kernel_rfl)) ?_
             try go_wp2
             go_loopg [7, 11] k2 (fun kq v7 v11 w' => ∃ (x4_3 : List Bool) (x7_3 : List Int) (x11_3 : Int), v11 = .int .i64 x11_3 ∧ Aside0 (spec_mlPieces.l2 kq l0 x3_1 x4_3 ((rdOf ByteArray.empty l0 0).size : Int) x7_3 x8_2 (Int.tmod (rd x7_2 x8_2) ((rdOf ByteArray.empty l0 0).size : Int)) (wrap64 (Int.tdiv (rd x7_2 x8_2) ((rdOf ByteArray.empty l0 0).size : Int))) x11_3 (t130.length : Int) x24_1 = some r) ∧ Aside0 (kq ≤ k2) ∧ Aside0 (Kd.R (Kd.int .i64) 3 w' w.heap.size (fun k_ => some k_ ≠ (v7 : Value).ownBlock) u3 x3_1) ∧ Aside0 (Kd.R Kd.bool 4 w' w.heap.size (fun _ => True) (.slice (some ⟨go11, 0, none⟩) x4_2.length co5) x4_3) ∧ Aside0 (Kd.R (Kd.int .i64) 3 w' w.heap.size (fun k_ => some k_ ≠ (u3 : Value).ownBlock) v7 x7_3) ∧ Aside0 (Below w.heap.size w w'))
             case atStart => exact ⟨(x4_2), (x7_2), (0), (by first | rfl | (simp; done) | (simp [*]; done)), H', ⟨Nat.le_refl _⟩, ⟨by (try simp only [hl4_1]); (try simp only [hl4_2]); (with_reducible repeat (first | apply Kd.R_alloc | apply Kd.R_drewN | apply Kd.R_drew)); exact HO_3.out⟩, ⟨by (try simp only [hl4_1]); (try simp only [hl4_2]); (with_reducible repeat (first | apply Kd.R_alloc | apply Kd.R_drewN | apply Kd.R_drew)); exact HO_4.out⟩, ⟨by (try simp only [hl4_1]); (try simp only [hl4_2]); (with_reducible repeat (first | apply Kd.R_alloc | apply Kd.R_drewN | apply Kd.R_drew)); exact HO_7.out⟩, ⟨by repeat (first | (with_reducible first | exact HB.out | apply below_alloc | apply pw_below_drewN | apply below_drew1) | exact HB.out)⟩⟩
             case round =>
              clear H'
              try clear c1
              try clear p1
              try clear q1
              try clear hx1
              try clear qi1
              try clear hf1
              try clear p2
              try clear c3
              try clear c3b0
              try clear c3b1
              try clear c4
              try clear c5
              try clear c6
              try clear c6b0
              try clear p6
              try clear c7
              try clear c7b0
              try clear c8
              try clear c8b0
              try clear q9
              try clear c10
              try clear p11
              try clear q11
              try clear hx11
              try clear hf11
              try clear p13
              try clear q13
              try clear hx13
              try clear qi13
              try clear p14
              try clear q14
              try clear hx14
              try clear c16
              try clear c16b0
              try clear c17
              try clear c17b0
              try clear c18
              try clear c18b0
              try clear c18b1
              try clear hx11_0
              try clear hx133_0
              try clear hx134_0
              try clear hx139_0
              try clear hx140_0
              try clear p1
              try clear p11
              try clear p13
              try clear p133
              try clear p134
              try clear p139
              try clear p140
              try clear p2
              try clear p6
              try clear q1
              try clear q11
              try clear q13
              try clear q133
              try clear q134
              try clear q139
              try clear q140
              try clear q9
              obtain ⟨x4_3, x7_3, x11_3, rfl, HA, HK3, HO_3, HO_4, HO_7, HB⟩ := hrel
              have hl4_3 := (Kd.R_reads' HO_4.out).1
              rw [hl4_3] at HO_4
              (try simp only [hl4_3])
              (try simp only [hl4_3] at HO_3)
              (try simp only [hl4_3] at HO_7)
              cases gk with
              | zero => exact absurd HA.out (by simp [spec_mlPieces.l2])
              | succ k3 =>
               have H := HA.out
               clear HA
               simp only [spec_mlPieces.l2] at H
               by_cases c21 : x11_3 < 4
               ·rw [if_pos c21] at H
                have c21b0 : decide (x11_3 < 4) = true := decide_eq_true c21
                clear c21
                obtain ⟨y141, hy141⟩ : ∃ y_ : List Int, y_ = (([0, 1, 0, (-1)] : List Int)) := ⟨_, rfl⟩
                replace H : (if 0 ≤ x11_3 then (if x11_3 < (y141.length : Int) then ((some (([(-1), 0, 1, 0] : List Int) : List Int)).bind fun y145 => (if x11_3 < (y145.length : Int) then ((spec_mlAt.f l0 (wrap64 ((Int.tmod (rd x7_2 x8_2) ((rdOf ByteArray.empty l0 0).size : Int)) + (rd y141 x11_3))) (wrap64 ((wrap64 (Int.tdiv (rd x7_2 x8_2) ((rdOf ByteArray.empty l0 0).size : Int))) + (rd y145 x11_3)))).bind fun t149 => (if t149 = true then (if 0 ≤ (wrap64 ((wrap64 ((wrap64 ((wrap64 (Int.tdiv (rd x7_2 x8_2) ((rdOf ByteArray.empty l0 0).size : Int))) + (rd y145 x11_3))) * ((rdOf ByteArray.empty l0 0).size : Int))) + (wrap64 ((Int.tmod (rd x7_2 x8_2) ((rdOf ByteArray.empty l0 0).size : Int)) + (rd y141 x11_3))))) then (if (wrap64 ((wrap64 ((wrap64 ((wrap64 (Int.tdiv (rd x7_2 x8_2) ((rdOf ByteArray.empty l0 0).size : Int))) + (rd y145 x11_3))) * ((rdOf ByteArray.empty l0 0).size : Int))) + (wrap64 ((Int.tmod (rd x7_2 x8_2) ((rdOf ByteArray.empty l0 0).size : Int)) + (rd y141 x11_3))))) < (x4_3.length : Int) then (if rdOf false x4_3 (wrap64 ((wrap64 ((wrap64 ((wrap64 (Int.tdiv (rd x7_2 x8_2) ((rdOf ByteArray.empty l0 0).size : Int))) + (rd y145 x11_3))) * ((rdOf ByteArray.empty l0 0).size : Int))) + (wrap64 ((Int.tmod (rd x7_2 x8_2) ((rdOf ByteArray.empty l0 0).size : Int)) + (rd y141 x11_3))))) = true then (if x7_3.length < 17592186044416 then (spec_mlPieces.l2 k3 l0 x3_1 (x4_3.set ((wrap64 ((wrap64 ((wrap64 ((wrap64 (Int.tdiv (rd x7_2 x8_2) ((rdOf ByteArray.empty l0 0).size : Int))) + (rd y145 x11_3))) * ((rdOf ByteArray.empty l0 0).size : Int))) + (wrap64 ((Int.tmod (rd x7_2 x8_2) ((rdOf ByteArray.empty l0 0).size : Int)) + (rd y141 x11_3))))) : Int).toNat false) ((rdOf ByteArray.empty l0 0).size : Int) (x7_3 ++ [wrap64 ((wrap64 ((wrap64 ((wrap64 (Int.tdiv (rd x7_2 x8_2) ((rdOf ByteArray.empty l0 0).size : Int))) + (rd y145 x11_3))) * ((rdOf ByteArray.empty l0 0).size : Int))) + (wrap64 ((Int.tmod (rd x7_2 x8_2) ((rdOf ByteArray.empty l0 0).size : Int)) + (rd y141 x11_3))))]) x8_2 (Int.tmod (rd x7_2 x8_2) ((rdOf ByteArray.empty l0 0).size : Int)) (wrap64 (Int.tdiv (rd x7_2 x8_2) ((rdOf ByteArray.empty l0 0).size : Int))) (wrap64 (x11_3 + 1)) (t130.length : Int) x24_1) else (none)) else (spec_mlPieces.l2 k3 l0 x3_1 x4_3 ((rdOf ByteArray.empty l0 0).size : Int) x7_3 x8_2 (Int.tmod (rd x7_2 x8_2) ((rdOf ByteArray.empty l0 0).size : Int)) (wrap64 (Int.tdiv (rd x7_2 x8_2) ((rdOf ByteArray.empty l0 0).size : Int))) (wrap64 (x11_3 + 1)) (t130.length : Int) x24_1)) else (none)) else (none)) else (spec_mlPieces.l2 k3 l0 x3_1 x4_3 ((rdOf ByteArray.empty l0 0).size : Int) x7_3 x8_2 (Int.tmod (rd x7_2 x8_2) ((rdOf ByteArray.empty l0 0).size : Int)) (wrap64 (Int.tdiv (rd x7_2 x8_2) ((rdOf ByteArray.empty l0 0).size : Int))) (wrap64 (x11_3 + 1)) (t130.length : Int) x24_1))) else (none))) else (none)) else (none)) = some r := by first | (rw [hy141]; with_reducible exact H) | (have H2_ := (Option.bind_some _ _).symm.trans H; rw [hy141]; with_reducible exact H2_) | (have H2_ := (Option.bind_some _ _).symm.trans H; with_reducible exact H2_) | with_reducible exact H | (rw [hy141]; exact H) | exact H
                have Ny141 := Aside0.mk hy141
                clear hy141
                by_cases c22 : 0 ≤ x11_3
                ·rw [if_pos c22] at H
                 have c22b0 : decide (0 ≤ x11_3) = true := decide_eq_true c22
                 clear c22
                 by_cases c23 : x11_3 < (y141.length : Int)
                 ·rw [if_pos c23] at H
                  have c23b0 : decide (x11_3 < (y141.length : Int)) = true := decide_eq_true c23
                  clear c23
                  obtain ⟨y145, hy145⟩ : ∃ y_ : List Int, y_ = (([(-1), 0, 1, 0] : List Int)) := ⟨_, rfl⟩
                  replace H : (if x11_3 < (y145.length : Int) then ((spec_mlAt.f l0 (wrap64 ((Int.tmod (rd x7_2 x8_2) ((rdOf ByteArray.empty l0 0).size : Int)) + (rd y141 x11_3))) (wrap64 ((wrap64 (Int.tdiv (rd x7_2 x8_2) ((rdOf ByteArray.empty l0 0).size : Int))) + (rd y145 x11_3)))).bind fun t149 => (if t149 = true then (if 0 ≤ (wrap64 ((wrap64 ((wrap64 ((wrap64 (Int.tdiv (rd x7_2 x8_2) ((rdOf ByteArray.empty l0 0).size : Int))) + (rd y145 x11_3))) * ((rdOf ByteArray.empty l0 0).size : Int))) + (wrap64 ((Int.tmod (rd x7_2 x8_2) ((rdOf ByteArray.empty l0 0).size : Int)) + (rd y141 x11_3))))) then (if (wrap64 ((wrap64 ((wrap64 ((wrap64 (Int.tdiv (rd x7_2 x8_2) ((rdOf ByteArray.empty l0 0).size : Int))) + (rd y145 x11_3))) * ((rdOf ByteArray.empty l0 0).size : Int))) + (wrap64 ((Int.tmod (rd x7_2 x8_2) ((rdOf ByteArray.empty l0 0).size : Int)) + (rd y141 x11_3))))) < (x4_3.length : Int) then (if rdOf false x4_3 (wrap64 ((wrap64 ((wrap64 ((wrap64 (Int.tdiv (rd x7_2 x8_2) ((rdOf ByteArray.empty l0 0).size : Int))) + (rd y145 x11_3))) * ((rdOf ByteArray.empty l0 0).size : Int))) + (wrap64 ((Int.tmod (rd x7_2 x8_2) ((rdOf ByteArray.empty l0 0).size : Int)) + (rd y141 x11_3))))) = true then (if x7_3.length < 17592186044416 then (spec_mlPieces.l2 k3 l0 x3_1 (x4_3.set ((wrap64 ((wrap64 ((wrap64 ((wrap64 (Int.tdiv (rd x7_2 x8_2) ((rdOf ByteArray.empty l0 0).size : Int))) + (rd y145 x11_3))) * ((rdOf ByteArray.empty l0 0).size : Int))) + (wrap64 ((Int.tmod (rd x7_2 x8_2) ((rdOf ByteArray.empty l0 0).size : Int)) + (rd y141 x11_3))))) : Int).toNat false) ((rdOf ByteArray.empty l0 0).size : Int) (x7_3 ++ [wrap64 ((wrap64 ((wrap64 ((wrap64 (Int.tdiv (rd x7_2 x8_2) ((rdOf ByteArray.empty l0 0).size : Int))) + (rd y145 x11_3))) * ((rdOf ByteArray.empty l0 0).size : Int))) + (wrap64 ((Int.tmod (rd x7_2 x8_2) ((rdOf ByteArray.empty l0 0).size : Int)) + (rd y141 x11_3))))]) x8_2 (Int.tmod (rd x7_2 x8_2) ((rdOf ByteArray.empty l0 0).size : Int)) (wrap64 (Int.tdiv (rd x7_2 x8_2) ((rdOf ByteArray.empty l0 0).size : Int))) (wrap64 (x11_3 + 1)) (t130.length : Int) x24_1) else (none)) else (spec_mlPieces.l2 k3 l0 x3_1 x4_3 ((rdOf ByteArray.empty l0 0).size : Int) x7_3 x8_2 (Int.tmod (rd x7_2 x8_2) ((rdOf ByteArray.empty l0 0).size : Int)) (wrap64 (Int.tdiv (rd x7_2 x8_2) ((rdOf ByteArray.empty l0 0).size : Int))) (wrap64 (x11_3 + 1)) (t130.length : Int) x24_1)) else (none)) else (none)) else (spec_mlPieces.l2 k3 l0 x3_1 x4_3 ((rdOf ByteArray.empty l0 0).size : Int) x7_3 x8_2 (Int.tmod (rd x7_2 x8_2) ((rdOf ByteArray.empty l0 0).size : Int)) (wrap64 (Int.tdiv (rd x7_2 x8_2) ((rdOf ByteArray.empty l0 0).size : Int))) (wrap64 (x11_3 + 1)) (t130.length : Int) x24_1))) else (none)) = some r := by first | (rw [hy145]; with_reducible exact H) | (have H2_ := (Option.bind_some _ _).symm.trans H; rw [hy145]; with_reducible exact H2_) | (have H2_ := (Option.bind_some _ _).symm.trans H; with_reducible exact H2_) | with_reducible exact H | (rw [hy145]; exact H) | exact H
                  have Ny145 := Aside0.mk hy145
                  clear hy145
                  by_cases c24 : x11_3 < (y145.length : Int)
                  ·rw [if_pos c24] at H
                   have c24b0 : decide (x11_3 < (y145.length : Int)) = true := decide_eq_true c24
                   clear c24
                   replace H := Option.bind_eq_some_iff.mp H
                   obtain ⟨t149, A250, H⟩ := H
                   replace H : (if t149 = true then (if 0 ≤ (wrap64 ((wrap64 ((wrap64 ((wrap64 (Int.tdiv (rd x7_2 x8_2) ((rdOf ByteArray.empty l0 0).size : Int))) + (rd y145 x11_3))) * ((rdOf ByteArray.empty l0 0).size : Int))) + (wrap64 ((Int.tmod (rd x7_2 x8_2) ((rdOf ByteArray.empty l0 0).size : Int)) + (rd y141 x11_3))))) then (if (wrap64 ((wrap64 ((wrap64 ((wrap64 (Int.tdiv (rd x7_2 x8_2) ((rdOf ByteArray.empty l0 0).size : Int))) + (rd y145 x11_3))) * ((rdOf ByteArray.empty l0 0).size : Int))) + (wrap64 ((Int.tmod (rd x7_2 x8_2) ((rdOf ByteArray.empty l0 0).size : Int)) + (rd y141 x11_3))))) < (x4_3.length : Int) then (if rdOf false x4_3 (wrap64 ((wrap64 ((wrap64 ((wrap64 (Int.tdiv (rd x7_2 x8_2) ((rdOf ByteArray.empty l0 0).size : Int))) + (rd y145 x11_3))) * ((rdOf ByteArray.empty l0 0).size : Int))) + (wrap64 ((Int.tmod (rd x7_2 x8_2) ((rdOf ByteArray.empty l0 0).size : Int)) + (rd y141 x11_3))))) = true then (if x7_3.length < 17592186044416 then (spec_mlPieces.l2 k3 l0 x3_1 (x4_3.set ((wrap64 ((wrap64 ((wrap64 ((wrap64 (Int.tdiv (rd x7_2 x8_2) ((rdOf ByteArray.empty l0 0).size : Int))) + (rd y145 x11_3))) * ((rdOf ByteArray.empty l0 0).size : Int))) + (wrap64 ((Int.tmod (rd x7_2 x8_2) ((rdOf ByteArray.empty l0 0).size : Int)) + (rd y141 x11_3))))) : Int).toNat false) ((rdOf ByteArray.empty l0 0).size : Int) (x7_3 ++ [wrap64 ((wrap64 ((wrap64 ((wrap64 (Int.tdiv (rd x7_2 x8_2) ((rdOf ByteArray.empty l0 0).size : Int))) + (rd y145 x11_3))) * ((rdOf ByteArray.empty l0 0).size : Int))) + (wrap64 ((Int.tmod (rd x7_2 x8_2) ((rdOf ByteArray.empty l0 0).size : Int)) + (rd y141 x11_3))))]) x8_2 (Int.tmod (rd x7_2 x8_2) ((rdOf ByteArray.empty l0 0).size : Int)) (wrap64 (Int.tdiv (rd x7_2 x8_2) ((rdOf ByteArray.empty l0 0).size : Int))) (wrap64 (x11_3 + 1)) (t130.length : Int) x24_1) else (none)) else (spec_mlPieces.l2 k3 l0 x3_1 x4_3 ((rdOf ByteArray.empty l0 0).size : Int) x7_3 x8_2 (Int.tmod (rd x7_2 x8_2) ((rdOf ByteArray.empty l0 0).size : Int)) (wrap64 (Int.tdiv (rd x7_2 x8_2) ((rdOf ByteArray.empty l0 0).size : Int))) (wrap64 (x11_3 + 1)) (t130.length : Int) x24_1)) else (none)) else (none)) else (spec_mlPieces.l2 k3 l0 x3_1 x4_3 ((rdOf ByteArray.empty l0 0).size : Int) x7_3 x8_2 (Int.tmod (rd x7_2 x8_2) ((rdOf ByteArray.empty l0 0).size : Int)) (wrap64 (Int.tdiv (rd x7_2 x8_2) ((rdOf ByteArray.empty l0 0).size : Int))) (wrap64 (x11_3 + 1)) (t130.length : Int) x24_1)) = some r := H
                   have A25 := Aside0.mk A250
                   clear A250
                   by_cases c26 : t149 = true
                   ·subst c26
                    have H1 : (if 0 ≤ (wrap64 ((wrap64 ((wrap64 ((wrap64 (Int.tdiv (rd x7_2 x8_2) ((rdOf ByteArray.empty l0 0).size : Int))) + (rd y145 x11_3))) * ((rdOf ByteArray.empty l0 0).size : Int))) + (wrap64 ((Int.tmod (rd x7_2 x8_2) ((rdOf ByteArray.empty l0 0).size : Int)) + (rd y141 x11_3))))) then (if (wrap64 ((wrap64 ((wrap64 ((wrap64 (Int.tdiv (rd x7_2 x8_2) ((rdOf ByteArray.empty l0 0).size : Int))) + (rd y145 x11_3))) * ((rdOf ByteArray.empty l0 0).size : Int))) + (wrap64 ((Int.tmod (rd x7_2 x8_2) ((rdOf ByteArray.empty l0 0).size : Int)) + (rd y141 x11_3))))) < (x4_3.length : Int) then (if rdOf false x4_3 (wrap64 ((wrap64 ((wrap64 ((wrap64 (Int.tdiv (rd x7_2 x8_2) ((rdOf ByteArray.empty l0 0).size : Int))) + (rd y145 x11_3))) * ((rdOf ByteArray.empty l0 0).size : Int))) + (wrap64 ((Int.tmod (rd x7_2 x8_2) ((rdOf ByteArray.empty l0 0).size : Int)) + (rd y141 x11_3))))) = true then (if x7_3.length < 17592186044416 then (spec_mlPieces.l2 k3 l0 x3_1 (x4_3.set ((wrap64 ((wrap64 ((wrap64 ((wrap64 (Int.tdiv (rd x7_2 x8_2) ((rdOf ByteArray.empty l0 0).size : Int))) + (rd y145 x11_3))) * ((rdOf ByteArray.empty l0 0).size : Int))) + (wrap64 ((Int.tmod (rd x7_2 x8_2) ((rdOf ByteArray.empty l0 0).size : Int)) + (rd y141 x11_3))))) : Int).toNat false) ((rdOf ByteArray.empty l0 0).size : Int) (x7_3 ++ [wrap64 ((wrap64 ((wrap64 ((wrap64 (Int.tdiv (rd x7_2 x8_2) ((rdOf ByteArray.empty l0 0).size : Int))) + (rd y145 x11_3))) * ((rdOf ByteArray.empty l0 0).size : Int))) + (wrap64 ((Int.tmod (rd x7_2 x8_2) ((rdOf ByteArray.empty l0 0).size : Int)) + (rd y141 x11_3))))]) x8_2 (Int.tmod (rd x7_2 x8_2) ((rdOf ByteArray.empty l0 0).size : Int)) (wrap64 (Int.tdiv (rd x7_2 x8_2) ((rdOf ByteArray.empty l0 0).size : Int))) (wrap64 (x11_3 + 1)) (t130.length : Int) x24_1) else (none)) else (spec_mlPieces.l2 k3 l0 x3_1 x4_3 ((rdOf ByteArray.empty l0 0).size : Int) x7_3 x8_2 (Int.tmod (rd x7_2 x8_2) ((rdOf ByteArray.empty l0 0).size : Int)) (wrap64 (Int.tdiv (rd x7_2 x8_2) ((rdOf ByteArray.empty l0 0).size : Int))) (wrap64 (x11_3 + 1)) (t130.length : Int) x24_1)) else (none)) else (none)) = some r := by rw [if_pos rfl] at H; exact H
                    clear H
                    have H := H1
                    clear H1
                    obtain ⟨ji27, hji27⟩ : ∃ j_ : Int, (wrap64 ((wrap64 ((wrap64 ((wrap64 (Int.tdiv (rd x7_2 x8_2) ((rdOf ByteArray.empty l0 0).size : Int))) + (rd y145 x11_3))) * ((rdOf ByteArray.empty l0 0).size : Int))) + (wrap64 ((Int.tmod (rd x7_2 x8_2) ((rdOf ByteArray.empty l0 0).size : Int)) + (rd y141 x11_3))))) = j_ := ⟨_, rfl⟩
                    replace H : (if 0 ≤ (ji27) then (if (ji27) < (x4_3.length : Int) then (if rdOf false x4_3 (ji27) = true then (if x7_3.length < 17592186044416 then (spec_mlPieces.l2 k3 l0 x3_1 (x4_3.set ((ji27) : Int).toNat false) ((rdOf ByteArray.empty l0 0).size : Int) (x7_3 ++ [ji27]) x8_2 (Int.tmod (rd x7_2 x8_2) ((rdOf ByteArray.empty l0 0).size : Int)) (wrap64 (Int.tdiv (rd x7_2 x8_2) ((rdOf ByteArray.empty l0 0).size : Int))) (wrap64 (x11_3 + 1)) (t130.length : Int) x24_1) else (none)) else (spec_mlPieces.l2 k3 l0 x3_1 x4_3 ((rdOf ByteArray.empty l0 0).size : Int) x7_3 x8_2 (Int.tmod (rd x7_2 x8_2) ((rdOf ByteArray.empty l0 0).size : Int)) (wrap64 (Int.tdiv (rd x7_2 x8_2) ((rdOf ByteArray.empty l0 0).size : Int))) (wrap64 (x11_3 + 1)) (t130.length : Int) x24_1)) else (none)) else (none)) = some r := by first | (rw [hji27] at H; exact H) | (simp only [hji27] at H ⊢; exact H)
                    (try rw [hji27] at A25)
                    have hji27w : (IntKind.i64.wrap ((wrap64 ((wrap64 ((wrap64 (Int.tdiv (rd x7_2 x8_2) ((rdOf ByteArray.empty l0 0).size : Int))) + (rd y145 x11_3))) * ((rdOf ByteArray.empty l0 0).size : Int))) + (wrap64 ((Int.tmod (rd x7_2 x8_2) ((rdOf ByteArray.empty l0 0).size : Int)) + (rd y141 x11_3))))) = ji27 := (i64_w _).trans hji27
                    by_cases c28 : 0 ≤ (ji27)
                    ·rw [if_pos c28] at H
                     have c28b0 : decide (0 ≤ (ji27)) = true := decide_eq_true c28
                     clear c28
                     by_cases c29 : (ji27) < (x4_3.length : Int)
                     ·rw [if_pos c29] at H
                      have c29b0 : decide ((ji27) < (x4_3.length : Int)) = true := decide_eq_true c29
                      clear c29
                      obtain ⟨bq30, hbq30⟩ : ∃ b_ : Bool, b_ = (rdOf false x4_3 (ji27)) := ⟨_, rfl⟩
                      replace H : (if bq30 = true then (if x7_3.length < 17592186044416 then (spec_mlPieces.l2 k3 l0 x3_1 (x4_3.set ((ji27) : Int).toNat false) ((rdOf ByteArray.empty l0 0).size : Int) (x7_3 ++ [ji27]) x8_2 (Int.tmod (rd x7_2 x8_2) ((rdOf ByteArray.empty l0 0).size : Int)) (wrap64 (Int.tdiv (rd x7_2 x8_2) ((rdOf ByteArray.empty l0 0).size : Int))) (wrap64 (x11_3 + 1)) (t130.length : Int) x24_1) else (none)) else (spec_mlPieces.l2 k3 l0 x3_1 x4_3 ((rdOf ByteArray.empty l0 0).size : Int) x7_3 x8_2 (Int.tmod (rd x7_2 x8_2) ((rdOf ByteArray.empty l0 0).size : Int)) (wrap64 (Int.tdiv (rd x7_2 x8_2) ((rdOf ByteArray.empty l0 0).size : Int))) (wrap64 (x11_3 + 1)) (t130.length : Int) x24_1)) = some r := by rw [← hbq30] at H; exact H
                      have Nbq30 := Aside0.mk hbq30
                      clear hbq30
                      by_cases c31 : bq30 = true
                      ·subst c31
                       have H1 : (if x7_3.length < 17592186044416 then (spec_mlPieces.l2 k3 l0 x3_1 (x4_3.set ((ji27) : Int).toNat false) ((rdOf ByteArray.empty l0 0).size : Int) (x7_3 ++ [ji27]) x8_2 (Int.tmod (rd x7_2 x8_2) ((rdOf ByteArray.empty l0 0).size : Int)) (wrap64 (Int.tdiv (rd x7_2 x8_2) ((rdOf ByteArray.empty l0 0).size : Int))) (wrap64 (x11_3 + 1)) (t130.length : Int) x24_1) else (none)) = some r := by rw [if_pos rfl] at H; exact H
                       clear H
                       have H := H1
                       clear H1
                       obtain ⟨y151, hy151⟩ : ∃ y_ : List Bool, y_ = (x4_3.set ((ji27) : Int).toNat false) := ⟨_, rfl⟩
                       replace H : (if x7_3.length < 17592186044416 then (spec_mlPieces.l2 k3 l0 x3_1 y151 ((rdOf ByteArray.empty l0 0).size : Int) (x7_3 ++ [ji27]) x8_2 (Int.tmod (rd x7_2 x8_2) ((rdOf ByteArray.empty l0 0).size : Int)) (wrap64 (Int.tdiv (rd x7_2 x8_2) ((rdOf ByteArray.empty l0 0).size : Int))) (wrap64 (x11_3 + 1)) (t130.length : Int) x24_1) else (none)) = some r := by first | (rw [hy151]; with_reducible exact H) | (have H2_ := (Option.bind_some _ _).symm.trans H; rw [hy151]; with_reducible exact H2_) | (have H2_ := (Option.bind_some _ _).symm.trans H; with_reducible exact H2_) | with_reducible exact H | (rw [hy151]; exact H) | exact H
                       have Ny151 := Aside0.mk hy151
                       clear hy151
                       by_cases c33 : x7_3.length < 17592186044416
                       ·rw [if_pos c33] at H
                        have LMc33 := Aside0.mk c33
                        clear c33
                        obtain ⟨y152, hy152⟩ : ∃ y_ : List Int, y_ = (x7_3 ++ [ji27]) := ⟨_, rfl⟩
                        replace H : (spec_mlPieces.l2 k3 l0 x3_1 y151 ((rdOf ByteArray.empty l0 0).size : Int) y152 x8_2 (Int.tmod (rd x7_2 x8_2) ((rdOf ByteArray.empty l0 0).size : Int)) (wrap64 (Int.tdiv (rd x7_2 x8_2) ((rdOf ByteArray.empty l0 0).size : Int))) (wrap64 (x11_3 + 1)) (t130.length : Int) x24_1) = some r := by first | (rw [hy152]; with_reducible exact H) | (have H2_ := (Option.bind_some _ _).symm.trans H; rw [hy152]; with_reducible exact H2_) | (have H2_ := (Option.bind_some _ _).symm.trans H; with_reducible exact H2_) | with_reducible exact H | (rw [hy152]; exact H) | exact H
                        have Ny152 := Aside0.mk hy152
                        clear hy152
                        have H' := Aside0.mk H
                        clear H
                        try go_wp2
                        have pi144 : (0 ≤ (x11_3 : Int)) = True := eq_true (of_decide_eq_true (by first | (with_reducible assumption) | assumption))
                        have qi144 : (x11_3 < (y141.length : Int)) = True := eq_true (of_decide_eq_true (by first | (with_reducible assumption) | assumption))
                        have pi148 : (0 ≤ (x11_3 : Int)) = True := eq_true (of_decide_eq_true (by first | (with_reducible assumption) | assumption))
                        have qi148 : (x11_3 < (y145.length : Int)) = True := eq_true (of_decide_eq_true (by first | (with_reducible assumption) | assumption))
                        have n0_ := Aside0.mk (Kd.R_drew HO_3.out)
                        have n1_ := Aside0.mk (Kd.R_drew HO_4.out)
                        have n2_ := Aside0.mk (Kd.R_drew HO_7.out)
                        have n3_ := Aside0.mk (below_drew1 HB.out)
                        clear HO_3
                        clear HO_4
                        clear HO_7
                        clear HB
                        have HO_3 := n0_
                        have HO_4 := n1_
                        have HO_7 := n2_
                        have HB := n3_
                        clear n0_ n1_ n2_ n3_
                        refine start_ (n := 14) (S := fun w' => True) (ds := []) #[false, false, false, false, false, false, false, false, false, false, false, false, false, false] (by kernel_rfl) rfl rfl trivial (fun hHeld => ?_); refine with_tabW spec_mlPieces.tab17 spec_mlPieces.bits17 (fun HT_ HW_ => ?_)
                        generalize wr.drew = w34 at HO_3 HO_4 HO_7 HB hHeld ⊢
                        refine pure_ (i := 0) (N := some 59) (v := ?_) (a' := ?_) #[true, false, false, false, false, false, false, false, false, false, false, false, false, false] rfl rfl (any_of HT_.out (by kernel_rfl)) (fun _ _ _ h => h) (Or.inl ⟨by rfl, ?_⟩) ?_ ?_
                        rotate_left
                        ·intro w'
                         go_simp
                         with_reducible rfl
                        rotate_left
                        ·simp only [Act.put, List.setIfInBounds_toArray, List.set_cons_zero, List.set_cons_succ, i64_w, i32_w]
                         rfl
                        refine pure_ (i := 2) (N := some 61) (v := ?_) (a' := ?_) #[true, false, true, false, false, false, false, false, false, false, false, false, false, false] rfl rfl (any_of HT_.out (by kernel_rfl)) (fun _ _ _ h => h) (Or.inl ⟨by rfl, ?_⟩) ?_ ?_
                        rotate_left
                        ·intro w'
                         go_simp
                         with_reducible rfl
                        rotate_left
                        ·simp only [Act.put, List.setIfInBounds_toArray, List.set_cons_zero, List.set_cons_succ, i64_w, i32_w]
                         rfl
                        refine pure_ (i := 6) (N := some 65) (v := ?_) (a' := ?_) #[true, false, true, false, false, false, true, false, false, false, false, false, false, false] rfl rfl (any_of HT_.out (by kernel_rfl)) (fun _ _ _ h => h) (Or.inl ⟨by rfl, ?_⟩) ?_ ?_
                        rotate_left
                        ·intro w'
                         go_simp
                         with_reducible rfl
                        rotate_left
                        ·simp only [Act.put, List.setIfInBounds_toArray, List.set_cons_zero, List.set_cons_succ, i64_w, i32_w]
                         rfl
                        refine pure_ (i := 8) (N := some 67) (v := ?_) (a' := ?_) #[true, false, true, false, false, false, true, false, true, false, false, false, false, false] rfl rfl (any_of HT_.out (by kernel_rfl)) (fun _ _ _ h => h) (Or.inl ⟨by rfl, ?_⟩) ?_ ?_
                        rotate_left
                        ·intro w'
                         go_simp
                         with_reducible rfl
                        rotate_left
                        ·simp only [Act.put, List.setIfInBounds_toArray, List.set_cons_zero, List.set_cons_succ, i64_w, i32_w]
                         rfl
                        refine inv_at [1, 3, 4, 5, 7, 9, 10, 11, 12, 13] (fun a0_ b a w' => ∃ (v142 : Value) (adz_v142 : Addr) (v146 : Value) (adz_v146 : Addr) (m3_ : Value) (m9_ : Value), a = putSel a0_ b [(1, 60, v142), (3, 62, m3_), (4, 63, .int .i64 (rd y141 x11_3)), (5, 64, .int .i64 (wrap64 ((Int.tmod (rd x7_2 x8_2) ((rdOf ByteArray.empty l0 0).size : Int)) + (rd y141 x11_3)))), (7, 66, v146), (9, 68, m9_), (10, 69, .int .i64 (rd y145 x11_3)), (11, 70, .int .i64 (wrap64 ((wrap64 (Int.tdiv (rd x7_2 x8_2) ((rdOf ByteArray.empty l0 0).size : Int))) + (rd y145 x11_3)))), (12, 12, .int .i64 (wrap64 ((Int.tmod (rd x7_2 x8_2) ((rdOf ByteArray.empty l0 0).size : Int)) + (rd y141 x11_3)))), (13, 13, .int .i64 (wrap64 ((wrap64 (Int.tdiv (rd x7_2 x8_2) ((rdOf ByteArray.empty l0 0).size : Int))) + (rd y145 x11_3))))] ∧ (Kd.R (Kd.int .i64) 3 w' w.heap.size (fun k_ => some k_ ≠ (u7 : Value).ownBlock) u3 x3_1) ∧ (Kd.R Kd.bool 4 w' w.heap.size (fun _ => True) (.slice (some ⟨go11, 0, none⟩) x4_3.length co5) x4_3) ∧ (Kd.R (Kd.int .i64) 3 w' w.heap.size (fun k_ => some k_ ≠ (u3 : Value).ownBlock) u7 x7_3) ∧ (Below w.heap.size w w') ∧ (b 1 = true → Kd.R (Kd.int .i64) 3 w' w.heap.size (fun k_ => some k_ ≠ (u3 : Value).ownBlock ∧ some k_ ≠ (u7 : Value).ownBlock) v142 y141) ∧ (b 1 = true → ∃ c_, (v142 : Value) = .slice (some adz_v142) y141.length c_) ∧ (b 7 = true → Kd.R (Kd.int .i64) 3 w' w.heap.size (fun k_ => some k_ ≠ (u3 : Value).ownBlock ∧ some k_ ≠ (u7 : Value).ownBlock) v146 y145) ∧ (b 7 = true → ∃ c_, (v146 : Value) = .slice (some adz_v146) y145.length c_) ∧ (b 3 = true → (m3_ : Value) = .pointer (some (adz_v142.add (x11_3).toNat))) ∧ (b 9 = true → (m9_ : Value) = .pointer (some (adz_v146.add (x11_3).toNat)))) HT_.out HW_.out (by kernel_rfl) (by kernel_rfl) ?_ ?_ ?_
                        ·exact ⟨.bool false, ⟨0, 0, none⟩, .bool false, ⟨0, 0, none⟩, .bool false, .bool false, by simp only [putSel, Bool.false_eq_true, if_false], HO_3.out, HO_4.out, HO_7.out, HB.out, fun h_ => absurd h_ (by decide), fun h_ => absurd h_ (by decide), fun h_ => absurd h_ (by decide), fun h_ => absurd h_ (by decide), fun h_ => absurd h_ (by decide), fun h_ => absurd h_ (by decide)⟩
                        ·skip
                         clear HB HO_3 HO_4 HO_7
                         refine steps_cons ?_ ?_
                         ·rintro b a w' ⟨v142, adz_v142, v146, adz_v146, m3_, m9_, ha, Q_HO_3, Q_HO_4, Q_HO_7, Q_HB, Q_HO143, Q_HA_HO143, Q_HO147, Q_HA_HO147, Q_X3_, Q_X9_⟩ hb_ hon hoff
                          refine ⟨_, rfl, fun K hK => ?_⟩
                          replace ha := Aside0.mk ha
                          have HO_3 := Aside0.mk Q_HO_3
                          have HO_4 := Aside0.mk Q_HO_4
                          have HO_7 := Aside0.mk Q_HO_7
                          have HB := Aside0.mk Q_HB
                          refine Kd.R_lit_step (Kd.int .i64) _ 3 ?hg (N := 60) ?hd (xs := ([0, 1, 0, (-1)] : List Int)) (inner := [.int .i64 0, .int .i64 1, .int .i64 0, .int .i64 (-1)]) (ok := fun _ => True) (okp := fun _ => True) ?hr ?hp (fun _ hk => hk) trivial (Below.refl _ _) (Nat.le_refl _) (by simp) ?_; (case hd => rfl); (case hg => rfl); (case hr => first | (go_simp; done) | (go_simp; rfl)); (case hp => exact (Reps.one (show Kd.M (Kd.int .i64) _ _ _ 0 [.int .i64 0] from rfl) (Reps.one (show Kd.M (Kd.int .i64) _ _ _ 1 [.int .i64 1] from rfl) (Reps.one (show Kd.M (Kd.int .i64) _ _ _ 0 [.int .i64 0] from rfl) (Reps.one (show Kd.M (Kd.int .i64) _ _ _ (-1) [.int .i64 (-1)] from rfl) (Reps.none _ _))))))
                          intro v142 w35 ho36 hb hg_ hnew_
                          clear hg_ hnew_
                          (first | rw [← Ny141.out] at ho36 | (simp only [Int.reduceToNat] at ho36; rw [← Ny141.out] at ho36))
                          have n0_ := Aside0.mk (Kd.R_elder' (by (with_reducible repeat (first | apply Kd.R_alloc | apply Kd.R_drewN | apply Kd.R_drew)); exact HO_3.out) (Kd.R_base ho36) hb)
                          have n1_ := Aside0.mk (Kd.R_below (by (with_reducible repeat (first | apply Kd.R_alloc | apply Kd.R_drewN | apply Kd.R_drew)); exact HO_4.out) hb)
                          have n2_ := Aside0.mk (Kd.R_elder' (by (with_reducible repeat (first | apply Kd.R_alloc | apply Kd.R_drewN | apply Kd.R_drew)); exact HO_7.out) (Kd.R_base ho36) hb)
                          have n3_ := Aside0.mk (Kd.R_lower (Kd.R_new' (Kd.R_new' ho36 (Kd.R_lt (by (with_reducible repeat (first | apply Kd.R_alloc | apply Kd.R_drewN | apply Kd.R_drew)); exact HO_3.out))) (Kd.R_lt (by (with_reducible repeat (first | apply Kd.R_alloc | apply Kd.R_drewN | apply Kd.R_drew)); exact HO_7.out))) (below_size (by repeat (first | (with_reducible first | exact HB.out | apply below_alloc | apply pw_below_drewN | apply below_drew1) | exact HB.out))))
                          have n4_ := Aside0.mk (below_step (by repeat (first | (with_reducible first | exact HB.out | apply below_alloc | apply pw_below_drewN | apply below_drew1) | exact HB.out)) hb)
                          have z_HO147 := fun (h0_ : b 7 = true) => (show Kd.R (Kd.int .i64) 3 w35 w.heap.size (fun k_ => some k_ ≠ (u3 : Value).ownBlock ∧ some k_ ≠ (u7 : Value).ownBlock) v146 y145 from by first | exact (Kd.R_elder' (by (with_reducible repeat (first | apply Kd.R_alloc | apply Kd.R_drewN | apply Kd.R_drew)); exact (Q_HO147 h0_)) (Kd.R_base ho36) hb) | exact Kd.R_mono (Kd.R_elder' (by (with_reducible repeat (first | apply Kd.R_alloc | apply Kd.R_drewN | apply Kd.R_drew)); exact (Q_HO147 h0_)) (Kd.R_base ho36) hb) (fun _ h_ => by first | trivial | exact h_ | exact h_.1))
                          clear HO_3
                          clear HO_4
                          clear HO_7
                          clear HB
                          have HO_3 := n0_
                          have HO_4 := n1_
                          have HO_7 := n2_
                          have HO143 := n3_
                          have HB := n4_
                          clear n0_ n1_ n2_ n3_ n4_
                          clear hb ho36
                          obtain ⟨Ao37, co37, eo37⟩ := Kd.R_slice HO143.out
                          subst eo37
                          obtain ⟨ado37, fo37, _⟩ := Kd.at_int (Kd.R_reads' HO143.out).2.2 0 (by decide) (by rw [Ny141.out]; simp)
                          cases fo37
                          refine hK.out _ _ ⟨.slice (some ado37) y141.length co37, ado37, v146, adz_v146, m3_, m9_, (by rw [ha.out]; exact putSel_upk 0 hb_ rfl rfl rfl), (by (with_reducible repeat (first | apply Kd.R_alloc | apply Kd.R_drewN | apply Kd.R_drew)); first | exact HO_3.out | exact Kd.R_mono HO_3.out (fun _ hk => hk.1) | exact Kd.R_mono HO_3.out (fun _ hk => hk.2)), (by (with_reducible repeat (first | apply Kd.R_alloc | apply Kd.R_drewN | apply Kd.R_drew)); exact HO_4.out), (by (with_reducible repeat (first | apply Kd.R_alloc | apply Kd.R_drewN | apply Kd.R_drew)); first | exact HO_7.out | exact Kd.R_mono HO_7.out (fun _ hk => hk.1) | exact Kd.R_mono HO_7.out (fun _ hk => hk.2)), (by repeat (first | (with_reducible first | exact HB.out | apply below_alloc | apply pw_below_drewN | apply below_drew1) | exact HB.out)), fun _ => (by (with_reducible repeat (first | apply Kd.R_alloc | apply Kd.R_drewN | apply Kd.R_drew)); exact Kd.R_mono HO143.out (fun _ hk => ⟨hk.1.2, hk.2⟩)), fun _ => ⟨_, rfl⟩, z_HO147, Q_HA_HO147, fun h0_ => absurd ((hoff 3 (by kernel_rfl)).symm.trans h0_) (by decide), Q_X9_⟩
                         refine steps_cons ?_ ?_
                         ·rintro b a w' ⟨v142, adz_v142, v146, adz_v146, m3_, m9_, ha, Q_HO_3, Q_HO_4, Q_HO_7, Q_HB, Q_HO143, Q_HA_HO143, Q_HO147, Q_HA_HO147, Q_X3_, Q_X9_⟩ hb_ hon hoff
                          refine ⟨_, rfl, fun K hK => ?_⟩
                          have e60 : a.tmps[60]? = some (v142) := by rw [ha]; exact putSel_on (e := (1, 60, v142)) 0 rfl rfl (hon 1 (by kernel_rfl)) rfl
                          have e61 : a.tmps[61]? = some (.int .i64 x11_3) := by rw [ha]; exact (putSel_off rfl).trans rfl
                          replace ha := Aside0.mk ha
                          have HO_3 := Aside0.mk Q_HO_3
                          have HO_4 := Aside0.mk Q_HO_4
                          have HO_7 := Aside0.mk Q_HO_7
                          have HB := Aside0.mk Q_HB
                          have HO143 := Aside0.mk (Q_HO143 (hon 1 (by kernel_rfl)))
                          have HA_HO143 := Aside0.mk (Q_HA_HO143 (hon 1 (by kernel_rfl)))
                          obtain ⟨c_, hv_⟩ := HA_HO143.out
                          rw [hv_] at e60
                          refine value_ (w1 := w') (v := .pointer (some (adz_v142.add (x11_3).toNat))) (by rfl) rfl ?_ ?_
                          ·go_simp
                           (try simp only [i64_w])
                           try rfl
                          refine hK.out _ _ ⟨v142, adz_v142, v146, adz_v146, (.pointer (some (adz_v142.add (x11_3).toNat))), m9_, (by rw [ha.out]; exact putSel_upk 1 hb_ rfl rfl rfl), Q_HO_3, Q_HO_4, Q_HO_7, Q_HB, Q_HO143, Q_HA_HO143, Q_HO147, Q_HA_HO147, fun _ => rfl, Q_X9_⟩
                         refine steps_cons ?_ ?_
                         ·rintro b a w' ⟨v142, adz_v142, v146, adz_v146, m3_, m9_, ha, Q_HO_3, Q_HO_4, Q_HO_7, Q_HB, Q_HO143, Q_HA_HO143, Q_HO147, Q_HA_HO147, Q_X3_, Q_X9_⟩ hb_ hon hoff
                          refine ⟨_, rfl, fun K hK => ?_⟩
                          have e62 : a.tmps[62]? = some (m3_) := by rw [ha]; exact putSel_on (e := (3, 62, m3_)) 1 rfl rfl (hon 3 (by kernel_rfl)) rfl
                          rw [Q_X3_ (hon 3 (by kernel_rfl))] at e62
                          replace ha := Aside0.mk ha
                          have HO_3 := Aside0.mk Q_HO_3
                          have HO_4 := Aside0.mk Q_HO_4
                          have HO_7 := Aside0.mk Q_HO_7
                          have HB := Aside0.mk Q_HB
                          have HO143 := Aside0.mk (Q_HO143 (hon 1 (by kernel_rfl)))
                          have HA_HO143 := Aside0.mk (Q_HA_HO143 (hon 1 (by kernel_rfl)))
                          obtain ⟨c_, hv_⟩ := HA_HO143.out
                          have hF_ := HO143.out
                          rw [hv_] at hF_
                          obtain ⟨ad_, ea_, hx_⟩ := Kd.at_int (Kd.R_reads' hF_).2.2 x11_3 (of_eq_true pi144) (of_eq_true qi144)
                          cases ea_
                          refine value_ (w1 := w') (v := .int .i64 (rd y141 x11_3)) (by rfl) rfl ?_ ?_
                          ·go_simp
                           (try simp only [i64_w])
                           try rfl
                          refine hK.out _ _ ⟨v142, adz_v142, v146, adz_v146, m3_, m9_, (by rw [ha.out]; exact putSel_upk 2 hb_ rfl rfl rfl), Q_HO_3, Q_HO_4, Q_HO_7, Q_HB, Q_HO143, Q_HA_HO143, Q_HO147, Q_HA_HO147, Q_X3_, Q_X9_⟩
                         refine steps_cons ?_ ?_
                         ·rintro b a w' ⟨v142, adz_v142, v146, adz_v146, m3_, m9_, ha, Q_HO_3, Q_HO_4, Q_HO_7, Q_HB, Q_HO143, Q_HA_HO143, Q_HO147, Q_HA_HO147, Q_X3_, Q_X9_⟩ hb_ hon hoff
                          refine ⟨_, rfl, fun K hK => ?_⟩
                          have e59 : a.tmps[59]? = some (.int .i64 (Int.tmod (rd x7_2 x8_2) ((rdOf ByteArray.empty l0 0).size : Int))) := by rw [ha]; exact (putSel_off rfl).trans rfl
                          have e63 : a.tmps[63]? = some (.int .i64 (rd y141 x11_3)) := by rw [ha]; exact putSel_on (e := (4, 63, .int .i64 (rd y141 x11_3))) 2 rfl rfl (hon 4 (by kernel_rfl)) rfl
                          replace ha := Aside0.mk ha
                          have HO_3 := Aside0.mk Q_HO_3
                          have HO_4 := Aside0.mk Q_HO_4
                          have HO_7 := Aside0.mk Q_HO_7
                          have HB := Aside0.mk Q_HB
                          have HO143 := Aside0.mk (Q_HO143 (hon 1 (by kernel_rfl)))
                          have HA_HO143 := Aside0.mk (Q_HA_HO143 (hon 1 (by kernel_rfl)))
                          refine value_ (w1 := w') (v := .int .i64 (wrap64 ((Int.tmod (rd x7_2 x8_2) ((rdOf ByteArray.empty l0 0).size : Int)) + (rd y141 x11_3)))) (by rfl) rfl ?_ ?_
                          ·go_simp
                           (try simp only [i64_w])
                           try rfl
                          refine hK.out _ _ ⟨v142, adz_v142, v146, adz_v146, m3_, m9_, (by rw [ha.out]; exact putSel_upk 3 hb_ rfl rfl rfl), Q_HO_3, Q_HO_4, Q_HO_7, Q_HB, Q_HO143, Q_HA_HO143, Q_HO147, Q_HA_HO147, Q_X3_, Q_X9_⟩
                         refine steps_cons ?_ ?_
                         ·rintro b a w' ⟨v142, adz_v142, v146, adz_v146, m3_, m9_, ha, Q_HO_3, Q_HO_4, Q_HO_7, Q_HB, Q_HO143, Q_HA_HO143, Q_HO147, Q_HA_HO147, Q_X3_, Q_X9_⟩ hb_ hon hoff
                          refine ⟨_, rfl, fun K hK => ?_⟩
                          replace ha := Aside0.mk ha
                          have HO_3 := Aside0.mk Q_HO_3
                          have HO_4 := Aside0.mk Q_HO_4
                          have HO_7 := Aside0.mk Q_HO_7
                          have HB := Aside0.mk Q_HB
                          refine Kd.R_lit_step (Kd.int .i64) _ 3 ?hg (N := 66) ?hd (xs := ([(-1), 0, 1, 0] : List Int)) (inner := [.int .i64 (-1), .int .i64 0, .int .i64 1, .int .i64 0]) (ok := fun _ => True) (okp := fun _ => True) ?hr ?hp (fun _ hk => hk) trivial (Below.refl _ _) (Nat.le_refl _) (by simp) ?_; (case hd => rfl); (case hg => rfl); (case hr => first | (go_simp; done) | (go_simp; rfl)); (case hp => exact (Reps.one (show Kd.M (Kd.int .i64) _ _ _ (-1) [.int .i64 (-1)] from rfl) (Reps.one (show Kd.M (Kd.int .i64) _ _ _ 0 [.int .i64 0] from rfl) (Reps.one (show Kd.M (Kd.int .i64) _ _ _ 1 [.int .i64 1] from rfl) (Reps.one (show Kd.M (Kd.int .i64) _ _ _ 0 [.int .i64 0] from rfl) (Reps.none _ _))))))
                          intro v146 w35 ho36 hb hg_ hnew_
                          clear hg_ hnew_
                          (first | rw [← Ny145.out] at ho36 | (simp only [Int.reduceToNat] at ho36; rw [← Ny145.out] at ho36))
                          have n0_ := Aside0.mk (Kd.R_elder' (by (with_reducible repeat (first | apply Kd.R_alloc | apply Kd.R_drewN | apply Kd.R_drew)); exact HO_3.out) (Kd.R_base ho36) hb)
                          have n1_ := Aside0.mk (Kd.R_below (by (with_reducible repeat (first | apply Kd.R_alloc | apply Kd.R_drewN | apply Kd.R_drew)); exact HO_4.out) hb)
                          have n2_ := Aside0.mk (Kd.R_elder' (by (with_reducible repeat (first | apply Kd.R_alloc | apply Kd.R_drewN | apply Kd.R_drew)); exact HO_7.out) (Kd.R_base ho36) hb)
                          have n3_ := Aside0.mk (Kd.R_lower (Kd.R_new' (Kd.R_new' ho36 (Kd.R_lt (by (with_reducible repeat (first | apply Kd.R_alloc | apply Kd.R_drewN | apply Kd.R_drew)); exact HO_3.out))) (Kd.R_lt (by (with_reducible repeat (first | apply Kd.R_alloc | apply Kd.R_drewN | apply Kd.R_drew)); exact HO_7.out))) (below_size (by repeat (first | (with_reducible first | exact HB.out | apply below_alloc | apply pw_below_drewN | apply below_drew1) | exact HB.out))))
                          have n4_ := Aside0.mk (below_step (by repeat (first | (with_reducible first | exact HB.out | apply below_alloc | apply pw_below_drewN | apply below_drew1) | exact HB.out)) hb)
                          have z_HO143 := fun (h0_ : b 1 = true) => (show Kd.R (Kd.int .i64) 3 w35 w.heap.size (fun k_ => some k_ ≠ (u3 : Value).ownBlock ∧ some k_ ≠ (u7 : Value).ownBlock) v142 y141 from by first | exact (Kd.R_elder' (by (with_reducible repeat (first | apply Kd.R_alloc | apply Kd.R_drewN | apply Kd.R_drew)); exact (Q_HO143 h0_)) (Kd.R_base ho36) hb) | exact Kd.R_mono (Kd.R_elder' (by (with_reducible repeat (first | apply Kd.R_alloc | apply Kd.R_drewN | apply Kd.R_drew)); exact (Q_HO143 h0_)) (Kd.R_base ho36) hb) (fun _ h_ => by first | trivial | exact h_ | exact h_.1))
                          clear HO_3
                          clear HO_4
                          clear HO_7
                          clear HB
                          have HO_3 := n0_
                          have HO_4 := n1_
                          have HO_7 := n2_
                          have HO147 := n3_
                          have HB := n4_
                          clear n0_ n1_ n2_ n3_ n4_
                          clear hb ho36
                          obtain ⟨Ao37, co37, eo37⟩ := Kd.R_slice HO147.out
                          subst eo37
                          obtain ⟨ado37, fo37, _⟩ := Kd.at_int (Kd.R_reads' HO147.out).2.2 0 (by decide) (by rw [Ny145.out]; simp)
                          cases fo37
                          refine hK.out _ _ ⟨v142, adz_v142, .slice (some ado37) y145.length co37, ado37, m3_, m9_, (by rw [ha.out]; exact putSel_upk 4 hb_ rfl rfl rfl), (by (with_reducible repeat (first | apply Kd.R_alloc | apply Kd.R_drewN | apply Kd.R_drew)); first | exact HO_3.out | exact Kd.R_mono HO_3.out (fun _ hk => hk.1) | exact Kd.R_mono HO_3.out (fun _ hk => hk.2)), (by (with_reducible repeat (first | apply Kd.R_alloc | apply Kd.R_drewN | apply Kd.R_drew)); exact HO_4.out), (by (with_reducible repeat (first | apply Kd.R_alloc | apply Kd.R_drewN | apply Kd.R_drew)); first | exact HO_7.out | exact Kd.R_mono HO_7.out (fun _ hk => hk.1) | exact Kd.R_mono HO_7.out (fun _ hk => hk.2)), (by repeat (first | (with_reducible first | exact HB.out | apply below_alloc | apply pw_below_drewN | apply below_drew1) | exact HB.out)), z_HO143, Q_HA_HO143, fun _ => (by (with_reducible repeat (first | apply Kd.R_alloc | apply Kd.R_drewN | apply Kd.R_drew)); exact Kd.R_mono HO147.out (fun _ hk => ⟨hk.1.2, hk.2⟩)), fun _ => ⟨_, rfl⟩, Q_X3_, fun h0_ => absurd ((hoff 9 (by kernel_rfl)).symm.trans h0_) (by decide)⟩
                         refine steps_cons ?_ ?_
                         ·rintro b a w' ⟨v142, adz_v142, v146, adz_v146, m3_, m9_, ha, Q_HO_3, Q_HO_4, Q_HO_7, Q_HB, Q_HO143, Q_HA_HO143, Q_HO147, Q_HA_HO147, Q_X3_, Q_X9_⟩ hb_ hon hoff
                          refine ⟨_, rfl, fun K hK => ?_⟩
                          have e66 : a.tmps[66]? = some (v146) := by rw [ha]; exact putSel_on (e := (7, 66, v146)) 4 rfl rfl (hon 7 (by kernel_rfl)) rfl
                          have e67 : a.tmps[67]? = some (.int .i64 x11_3) := by rw [ha]; exact (putSel_off rfl).trans rfl
                          replace ha := Aside0.mk ha
                          have HO_3 := Aside0.mk Q_HO_3
                          have HO_4 := Aside0.mk Q_HO_4
                          have HO_7 := Aside0.mk Q_HO_7
                          have HB := Aside0.mk Q_HB
                          have HO147 := Aside0.mk (Q_HO147 (hon 7 (by kernel_rfl)))
                          have HA_HO147 := Aside0.mk (Q_HA_HO147 (hon 7 (by kernel_rfl)))
                          obtain ⟨c_, hv_⟩ := HA_HO147.out
                          rw [hv_] at e66
                          refine value_ (w1 := w') (v := .pointer (some (adz_v146.add (x11_3).toNat))) (by rfl) rfl ?_ ?_
                          ·go_simp
                           (try simp only [i64_w])
                           try rfl
                          refine hK.out _ _ ⟨v142, adz_v142, v146, adz_v146, m3_, (.pointer (some (adz_v146.add (x11_3).toNat))), (by rw [ha.out]; exact putSel_upk 5 hb_ rfl rfl rfl), Q_HO_3, Q_HO_4, Q_HO_7, Q_HB, Q_HO143, Q_HA_HO143, Q_HO147, Q_HA_HO147, Q_X3_, fun _ => rfl⟩
                         refine steps_cons ?_ ?_
                         ·rintro b a w' ⟨v142, adz_v142, v146, adz_v146, m3_, m9_, ha, Q_HO_3, Q_HO_4, Q_HO_7, Q_HB, Q_HO143, Q_HA_HO143, Q_HO147, Q_HA_HO147, Q_X3_, Q_X9_⟩ hb_ hon hoff
                          refine ⟨_, rfl, fun K hK => ?_⟩
                          have e68 : a.tmps[68]? = some (m9_) := by rw [ha]; exact putSel_on (e := (9, 68, m9_)) 5 rfl rfl (hon 9 (by kernel_rfl)) rfl
                          rw [Q_X9_ (hon 9 (by kernel_rfl))] at e68
                          replace ha := Aside0.mk ha
                          have HO_3 := Aside0.mk Q_HO_3
                          have HO_4 := Aside0.mk Q_HO_4
                          have HO_7 := Aside0.mk Q_HO_7
                          have HB := Aside0.mk Q_HB
                          have HO147 := Aside0.mk (Q_HO147 (hon 7 (by kernel_rfl)))
                          have HA_HO147 := Aside0.mk (Q_HA_HO147 (hon 7 (by kernel_rfl)))
                          obtain ⟨c_, hv_⟩ := HA_HO147.out
                          have hF_ := HO147.out
                          rw [hv_] at hF_
                          obtain ⟨ad_, ea_, hx_⟩ := Kd.at_int (Kd.R_reads' hF_).2.2 x11_3 (of_eq_true pi148) (of_eq_true qi148)
                          cases ea_
                          refine value_ (w1 := w') (v := .int .i64 (rd y145 x11_3)) (by rfl) rfl ?_ ?_
                          ·go_simp
                           (try simp only [i64_w])
                           try rfl
                          refine hK.out _ _ ⟨v142, adz_v142, v146, adz_v146, m3_, m9_, (by rw [ha.out]; exact putSel_upk 6 hb_ rfl rfl rfl), Q_HO_3, Q_HO_4, Q_HO_7, Q_HB, Q_HO143, Q_HA_HO143, Q_HO147, Q_HA_HO147, Q_X3_, Q_X9_⟩
                         refine steps_cons ?_ ?_
                         ·rintro b a w' ⟨v142, adz_v142, v146, adz_v146, m3_, m9_, ha, Q_HO_3, Q_HO_4, Q_HO_7, Q_HB, Q_HO143, Q_HA_HO143, Q_HO147, Q_HA_HO147, Q_X3_, Q_X9_⟩ hb_ hon hoff
                          refine ⟨_, rfl, fun K hK => ?_⟩
                          have e65 : a.tmps[65]? = some (.int .i64 (wrap64 (Int.tdiv (rd x7_2 x8_2) ((rdOf ByteArray.empty l0 0).size : Int)))) := by rw [ha]; exact (putSel_off rfl).trans rfl
                          have e69 : a.tmps[69]? = some (.int .i64 (rd y145 x11_3)) := by rw [ha]; exact putSel_on (e := (10, 69, .int .i64 (rd y145 x11_3))) 6 rfl rfl (hon 10 (by kernel_rfl)) rfl
                          replace ha := Aside0.mk ha
                          have HO_3 := Aside0.mk Q_HO_3
                          have HO_4 := Aside0.mk Q_HO_4
                          have HO_7 := Aside0.mk Q_HO_7
                          have HB := Aside0.mk Q_HB
                          have HO147 := Aside0.mk (Q_HO147 (hon 7 (by kernel_rfl)))
                          have HA_HO147 := Aside0.mk (Q_HA_HO147 (hon 7 (by kernel_rfl)))
                          refine value_ (w1 := w') (v := .int .i64 (wrap64 ((wrap64 (Int.tdiv (rd x7_2 x8_2) ((rdOf ByteArray.empty l0 0).size : Int))) + (rd y145 x11_3)))) (by rfl) rfl ?_ ?_
                          ·go_simp
                           (try simp only [i64_w])
                           try rfl
                          refine hK.out _ _ ⟨v142, adz_v142, v146, adz_v146, m3_, m9_, (by rw [ha.out]; exact putSel_upk 7 hb_ rfl rfl rfl), Q_HO_3, Q_HO_4, Q_HO_7, Q_HB, Q_HO143, Q_HA_HO143, Q_HO147, Q_HA_HO147, Q_X3_, Q_X9_⟩
                         refine steps_cons ?_ ?_
                         ·rintro b a w' ⟨v142, adz_v142, v146, adz_v146, m3_, m9_, ha, Q_HO_3, Q_HO_4, Q_HO_7, Q_HB, Q_HO143, Q_HA_HO143, Q_HO147, Q_HA_HO147, Q_X3_, Q_X9_⟩ hb_ hon hoff
                          refine ⟨_, rfl, fun K hK => ?_⟩
                          have e64 : a.tmps[64]? = some (.int .i64 (wrap64 ((Int.tmod (rd x7_2 x8_2) ((rdOf ByteArray.empty l0 0).size : Int)) + (rd y141 x11_3)))) := by rw [ha]; exact putSel_on (e := (5, 64, .int .i64 (wrap64 ((Int.tmod (rd x7_2 x8_2) ((rdOf ByteArray.empty l0 0).size : Int)) + (rd y141 x11_3))))) 3 rfl rfl (hon 5 (by kernel_rfl)) rfl
                          replace ha := Aside0.mk ha
                          have HO_3 := Aside0.mk Q_HO_3
                          have HO_4 := Aside0.mk Q_HO_4
                          have HO_7 := Aside0.mk Q_HO_7
                          have HB := Aside0.mk Q_HB
                          have HO143 := Aside0.mk (Q_HO143 (hon 1 (by kernel_rfl)))
                          have HA_HO143 := Aside0.mk (Q_HA_HO143 (hon 1 (by kernel_rfl)))
                          refine value_ (w1 := w') (v := .int .i64 (wrap64 ((Int.tmod (rd x7_2 x8_2) ((rdOf ByteArray.empty l0 0).size : Int)) + (rd y141 x11_3)))) (by rfl) rfl ?_ ?_
                          ·go_simp
                           (try simp only [i64_w])
                           try rfl
                          refine hK.out _ _ ⟨v142, adz_v142, v146, adz_v146, m3_, m9_, (by rw [ha.out]; exact putSel_upk 8 hb_ rfl rfl rfl), Q_HO_3, Q_HO_4, Q_HO_7, Q_HB, Q_HO143, Q_HA_HO143, Q_HO147, Q_HA_HO147, Q_X3_, Q_X9_⟩
                         refine steps_cons ?_ ?_
                         ·rintro b a w' ⟨v142, adz_v142, v146, adz_v146, m3_, m9_, ha, Q_HO_3, Q_HO_4, Q_HO_7, Q_HB, Q_HO143, Q_HA_HO143, Q_HO147, Q_HA_HO147, Q_X3_, Q_X9_⟩ hb_ hon hoff
                          refine ⟨_, rfl, fun K hK => ?_⟩
                          have e70 : a.tmps[70]? = some (.int .i64 (wrap64 ((wrap64 (Int.tdiv (rd x7_2 x8_2) ((rdOf ByteArray.empty l0 0).size : Int))) + (rd y145 x11_3)))) := by rw [ha]; exact putSel_on (e := (11, 70, .int .i64 (wrap64 ((wrap64 (Int.tdiv (rd x7_2 x8_2) ((rdOf ByteArray.empty l0 0).size : Int))) + (rd y145 x11_3))))) 7 rfl rfl (hon 11 (by kernel_rfl)) rfl
                          replace ha := Aside0.mk ha
                          have HO_3 := Aside0.mk Q_HO_3
                          have HO_4 := Aside0.mk Q_HO_4
                          have HO_7 := Aside0.mk Q_HO_7
                          have HB := Aside0.mk Q_HB
                          have HO143 := Aside0.mk (Q_HO143 (hon 1 (by kernel_rfl)))
                          have HA_HO143 := Aside0.mk (Q_HA_HO143 (hon 1 (by kernel_rfl)))
                          have HO147 := Aside0.mk (Q_HO147 (hon 7 (by kernel_rfl)))
                          have HA_HO147 := Aside0.mk (Q_HA_HO147 (hon 7 (by kernel_rfl)))
                          refine value_ (w1 := w') (v := .int .i64 (wrap64 ((wrap64 (Int.tdiv (rd x7_2 x8_2) ((rdOf ByteArray.empty l0 0).size : Int))) + (rd y145 x11_3)))) (by rfl) rfl ?_ ?_
                          ·go_simp
                           (try simp only [i64_w])
                           try rfl
                          refine hK.out _ _ ⟨v142, adz_v142, v146, adz_v146, m3_, m9_, (by rw [ha.out]; exact putSel_upk 9 hb_ rfl rfl rfl), Q_HO_3, Q_HO_4, Q_HO_7, Q_HB, Q_HO143, Q_HA_HO143, Q_HO147, Q_HA_HO147, Q_X3_, Q_X9_⟩
                         exact steps_nil
                        rintro b a w41 hall ⟨v142, adz_v142, v146, adz_v146, m3_, m9_, ha, Q_HO_3, Q_HO_4, Q_HO_7, Q_HB, Q_HO143, Q_HA_HO143, Q_HO147, Q_HA_HO147, Q_X3_, Q_X9_⟩
                        clear HB HO_3 HO_4 HO_7
                        have hb1_ := hall 1 (by kernel_rfl)
                        have hb3_ := hall 3 (by kernel_rfl)
                        have hb4_ := hall 4 (by kernel_rfl)
                        have hb5_ := hall 5 (by kernel_rfl)
                        have hb7_ := hall 7 (by kernel_rfl)
                        have hb9_ := hall 9 (by kernel_rfl)
                        have hb10_ := hall 10 (by kernel_rfl)
                        have hb11_ := hall 11 (by kernel_rfl)
                        have hb12_ := hall 12 (by kernel_rfl)
                        have hb13_ := hall 13 (by kernel_rfl)
                        subst ha
                        obtain rfl := Q_X3_ hb3_
                        obtain rfl := Q_X9_ hb9_
                        simp only [putSel, hb1_, hb3_, hb4_, hb5_, hb7_, hb9_, hb10_, hb11_, hb12_, hb13_, if_true, Act.put, List.setIfInBounds_toArray, List.set_cons_zero, List.set_cons_succ]
                        have HO_3 := Aside0.mk Q_HO_3
                        clear Q_HO_3
                        have HO_4 := Aside0.mk Q_HO_4
                        clear Q_HO_4
                        have HO_7 := Aside0.mk Q_HO_7
                        clear Q_HO_7
                        have HB := Aside0.mk Q_HB
                        clear Q_HB
                        have HO143 := Aside0.mk (Q_HO143 hb1_)
                        clear Q_HO143
                        have HA_HO143 := Aside0.mk (Q_HA_HO143 hb1_)
                        clear Q_HA_HO143
                        have HO147 := Aside0.mk (Q_HO147 hb7_)
                        clear Q_HO147
                        have HA_HO147 := Aside0.mk (Q_HA_HO147 hb7_)
                        clear Q_HA_HO147
                        clear hall hb1_ hb3_ hb4_ hb5_ hb7_ hb9_ hb10_ hb11_ hb12_ hb13_
                        obtain ⟨co42, eo42⟩ := HA_HO143.out
                        clear HA_HO143
                        subst eo42
                        obtain ⟨co43, eo43⟩ := HA_HO147.out
                        clear HA_HO147
                        subst eo43
                        try go_wp2_with (first | ((with_reducible refine gate_callee (f := 62) rfl ?_); refine goesL_ (some 74) rfl rfl Tryd.func62 (by kernel_rfl) rfl #[.slice (some ad133) l0.length c0, .int .i64 (wrap64 ((Int.tmod (rd x7_2 x8_2) ((rdOf ByteArray.empty l0 0).size : Int)) + (rd y141 x11_3))), .int .i64 (wrap64 ((wrap64 (Int.tdiv (rd x7_2 x8_2) ((rdOf ByteArray.empty l0 0).size : Int))) + (rd y145 x11_3)))] rfl (by (try simp only [List.map_toArray, List.map_cons, List.map_nil]); first | done | rfl | (simp only [List.length_drop, List.length_take]; rfl)) ?_; (with_reducible refine (spec_mlAt.calls _ _ l0 (wrap64 ((Int.tmod (rd x7_2 x8_2) ((rdOf ByteArray.empty l0 0).size : Int)) + (rd y141 x11_3))) (wrap64 ((wrap64 (Int.tdiv (rd x7_2 x8_2) ((rdOf ByteArray.empty l0 0).size : Int))) + (rd y145 x11_3))) true _ ?side1 ?side2 A25.out).mono ?_); (case side1 => repeat (first | exact (Kd.C_below HR0.out HB.out) | (with_reducible refine Kd.C_alloc ?_ _) | (with_reducible refine Kd.C_drewN ?_ _) | (with_reducible refine Kd.C_drew ?_))); (case side2 => exact HC0.out); rintro e w' ⟨rfl, ⟨nd, rfl⟩⟩; refine ⟨_, rfl, ?_⟩; (try (rw [drewN_self w41]; generalize hq_ : World.drewN w41 _ = w41; have n0_ : Aside0 (Kd.R (Kd.int .i64) 3 w41 w.heap.size (fun k_ => some k_ ≠ (u3 : Value).ownBlock ∧ some k_ ≠ (u7 : Value).ownBlock) (.slice (some adz_v142) y141.length co42) y141) := ⟨by rw [← hq_]; exact (by (with_reducible repeat (first | apply Kd.R_alloc | apply Kd.R_drewN | apply Kd.R_drew)); exact HO143.out)⟩; have n1_ : Aside0 (Kd.R (Kd.int .i64) 3 w41 w.heap.size (fun k_ => some k_ ≠ (u3 : Value).ownBlock ∧ some k_ ≠ (u7 : Value).ownBlock) (.slice (some adz_v146) y145.length co43) y145) := ⟨by rw [← hq_]; exact (by (with_reducible repeat (first | apply Kd.R_alloc | apply Kd.R_drewN | apply Kd.R_drew)); exact HO147.out)⟩; have n2_ : Aside0 (Kd.R (Kd.int .i64) 3 w41 w.heap.size (fun k_ => some k_ ≠ (u7 : Value).ownBlock) u3 x3_1) := ⟨by rw [← hq_]; exact (by (with_reducible repeat (first | apply Kd.R_alloc | apply Kd.R_drewN | apply Kd.R_drew)); exact HO_3.out)⟩; have n3_ : Aside0 (Kd.R Kd.bool 4 w41 w.heap.size (fun _ => True) (.slice (some ⟨go11, 0, none⟩) x4_3.length co5) x4_3) := ⟨by rw [← hq_]; exact (by (with_reducible repeat (first | apply Kd.R_alloc | apply Kd.R_drewN | apply Kd.R_drew)); exact HO_4.out)⟩; have n4_ : Aside0 (Kd.R (Kd.int .i64) 3 w41 w.heap.size (fun k_ => some k_ ≠ (u3 : Value).ownBlock) u7 x7_3) := ⟨by rw [← hq_]; exact (by (with_reducible repeat (first | apply Kd.R_alloc | apply Kd.R_drewN | apply Kd.R_drew)); exact HO_7.out)⟩; have n5_ : Aside0 (Below w.heap.size w w41) := ⟨by rw [← hq_]; exact (by repeat (first | (with_reducible first | exact HB.out | apply below_alloc | apply pw_below_drewN | apply below_drew1) | exact HB.out))⟩; clear HO143 HO147 HO_3 HO_4 HO_7 HB hq_; have HO143 := n0_; have HO147 := n1_; have HO_3 := n2_; have HO_4 := n3_; have HO_7 := n4_; have HB := n5_; clear n0_ n1_ n2_ n3_ n4_ n5_)); have p150 : 0 ≤ ((ji27) : Int) := of_decide_eq_true (by first | (with_reducible assumption) | assumption); have q150 : (ji27) < (x4_3.length : Int) := of_decide_eq_true (by first | (with_reducible assumption) | assumption); obtain ⟨ad150, e150, hx150_0⟩ := Kd.at_bool (Kd.R_reads' HO_4.out).2.2 (ji27) p150 q150; (try rw [← Nbq9.out] at hx150_0); (try rw [← Nbq30.out] at hx150_0); obtain rfl : (⟨go11, 0, none⟩ : Addr) = ad150 := (by injection e150); (first | simp only [add_plain] at hx150_0 | simp only [add_at] at hx150_0 | simp only [Addr.add, Nat.zero_add] at hx150_0 | skip); replace p150 := eq_true p150; replace q150 := eq_true q150; have p32 : 0 ≤ ((ji27) : Int) := of_decide_eq_true (by first | (with_reducible assumption) | assumption); have q32 : ((ji27) : Int) < ((x4_3.length : Int) : Int) := of_decide_eq_true (by first | (with_reducible assumption) | assumption); obtain ⟨hx32_0, hf32_0⟩ := Kd.R_celln false HO_4.out ((ji27) : Int) p32 q32; replace p32 := eq_true p32; replace q32 := eq_true q32; obtain ⟨hy44_, hz44_⟩ := Kd.R_celln false HO_4.out ((ji27) : Int) (of_decide_eq_true (by first | (with_reducible assumption) | assumption)) (of_decide_eq_true (by first | (with_reducible assumption) | assumption)); have HP44 := Kd.R_putg HO_4.out ((ji27) : Int) false) | ((with_reducible refine gate_store (t := 4) (p := 91) rfl ?_); refine store_event (t := 4) (p := 91) (v := ?vo_w45) (w1 := (w41.setCell ⟨go11, ((ji27) : Int).toNat, none⟩ (.bool false))) ?hg ?ho ?hn ?hr ?_; (case ho => rfl); (case hg => rfl); (case hn => rfl); (case hr => first | (go_simp; done) | (go_simp; rfl)); intro w45 hw; have hg : w41.grownBy w45 (some go11) := (by rw [hw]; exact HP44.2); have hp_ : Kd.R Kd.bool 4 w45 w.heap.size (fun _ => True) (.slice (some ⟨go11, 0, none⟩) x4_3.length co5) y151 := (by rw [hw, Ny151.out]; exact HP44.1); clear HP44; have n0_ := Aside0.mk (Kd.R_over' (v := (.slice (some ⟨go11, 0, none⟩) x4_3.length co5)) (by (with_reducible repeat (first | apply Kd.R_alloc | apply Kd.R_drewN | apply Kd.R_drew)); exact HO_3.out) (Kd.R_typed HO_4.out) (by decide) hg); have n1_ := Aside0.mk (hp_); have n2_ := Aside0.mk (Kd.R_over' (v := (.slice (some ⟨go11, 0, none⟩) x4_3.length co5)) (by (with_reducible repeat (first | apply Kd.R_alloc | apply Kd.R_drewN | apply Kd.R_drew)); exact HO_7.out) (Kd.R_typed HO_4.out) (by decide) hg); have n3_ := Aside0.mk (Kd.R_over' (v := (.slice (some ⟨go11, 0, none⟩) x4_3.length co5)) (by (with_reducible repeat (first | apply Kd.R_alloc | apply Kd.R_drewN | apply Kd.R_drew)); exact HO143.out) (Kd.R_typed HO_4.out) (by decide) hg); have n4_ := Aside0.mk (Kd.R_over' (v := (.slice (some ⟨go11, 0, none⟩) x4_3.length co5)) (by (with_reducible repeat (first | apply Kd.R_alloc | apply Kd.R_drewN | apply Kd.R_drew)); exact HO147.out) (Kd.R_typed HO_4.out) (by decide) hg); have n5_ := Aside0.mk ((by rw [hw]; exact below_set (HB.out) GB11.out : Below w.heap.size w w45)); clear HO_3; clear HO_4; clear HO_7; clear HO143; clear HO147; clear HB; have HO_3 := n0_; have HO_4 := n1_; have HO_7 := n2_; have HO143 := n3_; have HO147 := n4_; have HB := n5_; clear n0_ n1_ n2_ n3_ n4_ n5_; clear hg hw hp_) | ((with_reducible refine gate_builtin (b := .append) (xs := #[.tmp 92, .tmp 98]) rfl ?_); (try (refine gate_guard (by rfl) ?_; dsimp only)); at_builtin; refine Kd.R_append (Kd.int .i64) (w0 := w) w.heap.size rfl (.tmp 92) (.tmp 98) 35 3 (.int .i64 0) 8 rfl Tryd.underlying35 info3 rfl (by decide) (by omega) u7 x7_3 ji27 [.int .i64 ji27] (fun k_ => some k_ ≠ (u3 : Value).ownBlock) (fun _ => False) rfl rfl ?aP (fun _ hk => hk.elim) ?aF ?aO ?aB ?aS ?aL ?_; (case aP => exact rfl); (case aB => exact (by repeat (first | (with_reducible first | exact HB.out | apply below_alloc | apply pw_below_drewN | apply below_drew1) | exact HB.out))); (case aF => exact (fun k_ hk => Kd.fresh' (Kd.R_lt (by (with_reducible repeat (first | apply Kd.R_alloc | apply Kd.R_drewN | apply Kd.R_drew)); exact HO_3.out)) k_ hk)); (case aO => exact (by (with_reducible repeat (first | apply Kd.R_alloc | apply Kd.R_drewN | apply Kd.R_drew)); exact HO_7.out)); (case aS => exact (below_size (by repeat (first | (with_reducible first | exact HB.out | apply below_alloc | apply pw_below_drewN | apply below_drew1) | exact HB.out)))); (case aL => have := LMc33.out; omega); intro v153 w46 ho hb hg hat; rw [← Ny152.out] at ho; have n0_ := Aside0.mk (Kd.R_after (ok := (fun _ => True)) (by (with_reducible repeat (first | apply Kd.R_alloc | apply Kd.R_drewN | apply Kd.R_drew)); exact Kd.R_mono HO_3.out (fun _ hk => ⟨trivial, hk⟩)) hg hat); have n1_ := Aside0.mk (Kd.R_over' (by (with_reducible repeat (first | apply Kd.R_alloc | apply Kd.R_drewN | apply Kd.R_drew)); exact HO_4.out) (Kd.R_typed (by (with_reducible repeat (first | apply Kd.R_alloc | apply Kd.R_drewN | apply Kd.R_drew)); exact HO_7.out)) (by decide) hg); have n2_ := Aside0.mk (Kd.R_after (ok := (fun k_ => some k_ ≠ (u3 : Value).ownBlock)) (by (with_reducible repeat (first | apply Kd.R_alloc | apply Kd.R_drewN | apply Kd.R_drew)); exact HO143.out) hg hat); have n3_ := Aside0.mk (Kd.R_after (ok := (fun k_ => some k_ ≠ (u3 : Value).ownBlock)) (by (with_reducible repeat (first | apply Kd.R_alloc | apply Kd.R_drewN | apply Kd.R_drew)); exact HO147.out) hg hat); have n4_ := Aside0.mk (hb); have n5_ := Aside0.mk (ho); clear HO_3; clear HO_4; clear HO143; clear HO147; clear HB; clear HO_7; have HO_3 := n0_; have HO_4 := n1_; have HO143 := n2_; have HO147 := n3_; have HB := n4_; have HO154 := n5_; clear n0_ n1_ n2_ n3_ n4_ n5_; clear ho hb hg hat))
                        (try simp only [← hl4_3])
                        go_roundg k3
                        case measure => have := HK1.out; have := HK2.out; have := HK3.out; omega
                        case rel => exact ⟨(y151), (y152), (wrap64 (x11_3 + 1)), (by first | rfl | (simp; done) | (simp [*]; done)), H', ⟨by have := HK1.out; have := HK2.out; have := HK3.out; omega⟩, ⟨by (try simp only [hl4_1]); (try simp only [hl4_2]); (try simp only [hl4_3]); (with_reducible repeat (first | apply Kd.R_alloc | apply Kd.R_drewN | apply Kd.R_drew)); exact Kd.R_mono HO_3.out (fun _ hk => hk.2)⟩, ⟨by (try simp only [hl4_1]); (try simp only [hl4_2]); (try simp only [hl4_3]); (with_reducible repeat (first | apply Kd.R_alloc | apply Kd.R_drewN | apply Kd.R_drew)); exact HO_4.out⟩, ⟨by (try simp only [hl4_1]); (try simp only [hl4_2]); (try simp only [hl4_3]); (with_reducible repeat (first | apply Kd.R_alloc | apply Kd.R_drewN | apply Kd.R_drew)); first | exact HO154.out | exact Kd.R_mono HO154.out (fun _ hk => hk.1)⟩, ⟨by repeat (first | (with_reducible first | exact HB.out | apply below_alloc | apply pw_below_drewN | apply below_drew1) | exact HB.out)⟩⟩
                       ·rw [if_neg c33] at H
                        exact absurd H (by simp)
                      ·replace c31 := Bool.eq_false_iff.mpr c31
                       subst c31
                       have H1 : (spec_mlPieces.l2 k3 l0 x3_1 x4_3 ((rdOf ByteArray.empty l0 0).size : Int) x7_3 x8_2 (Int.tmod (rd x7_2 x8_2) ((rdOf ByteArray.empty l0 0).size : Int)) (wrap64 (Int.tdiv (rd x7_2 x8_2) ((rdOf ByteArray.empty l0 0).size : Int))) (wrap64 (x11_3 + 1)) (t130.length : Int) x24_1) = some r := by rw [if_neg (show ¬ (false = true) by decide)] at H; exact H
                       clear H
                       have H := H1
                       clear H1
                       have H' := Aside0.mk H
                       clear H
                       try go_wp2
                       have pi144 : (0 ≤ (x11_3 : Int)) = True := eq_true (of_decide_eq_true (by first | (with_reducible assumption) | assumption))
                       have qi144 : (x11_3 < (y141.length : Int)) = True := eq_true (of_decide_eq_true (by first | (with_reducible assumption) | assumption))
                       have pi148 : (0 ≤ (x11_3 : Int)) = True := eq_true (of_decide_eq_true (by first | (with_reducible assumption) | assumption))
                       have qi148 : (x11_3 < (y145.length : Int)) = True := eq_true (of_decide_eq_true (by first | (with_reducible assumption) | assumption))
                       have n0_ := Aside0.mk (Kd.R_drew HO_3.out)
                       have n1_ := Aside0.mk (Kd.R_drew HO_4.out)
                       have n2_ := Aside0.mk (Kd.R_drew HO_7.out)
                       have n3_ := Aside0.mk (below_drew1 HB.out)
                       clear HO_3
                       clear HO_4
                       clear HO_7
                       clear HB
                       have HO_3 := n0_
                       have HO_4 := n1_
                       have HO_7 := n2_
                       have HB := n3_
                       clear n0_ n1_ n2_ n3_
                       refine start_ (n := 14) (S := fun w' => True) (ds := []) #[false, false, false, false, false, false, false, false, false, false, false, false, false, false] (by kernel_rfl) rfl rfl trivial (fun hHeld => ?_); refine with_tabW spec_mlPieces.tab17 spec_mlPieces.bits17 (fun HT_ HW_ => ?_)
                       generalize wr.drew = w47 at HO_3 HO_4 HO_7 HB hHeld ⊢
                       refine pure_ (i := 0) (N := some 59) (v := ?_) (a' := ?_) #[true, false, false, false, false, false, false, false, false, false, false, false, false, false] rfl rfl (any_of HT_.out (by kernel_rfl)) (fun _ _ _ h => h) (Or.inl ⟨by rfl, ?_⟩) ?_ ?_
                       rotate_left
                       ·intro w'
                        go_simp
                        with_reducible rfl
                       rotate_left
                       ·simp only [Act.put, List.setIfInBounds_toArray, List.set_cons_zero, List.set_cons_succ, i64_w, i32_w]
                        rfl
                       refine pure_ (i := 2) (N := some 61) (v := ?_) (a' := ?_) #[true, false, true, false, false, false, false, false, false, false, false, false, false, false] rfl rfl (any_of HT_.out (by kernel_rfl)) (fun _ _ _ h => h) (Or.inl ⟨by rfl, ?_⟩) ?_ ?_
                       rotate_left
                       ·intro w'
                        go_simp
                        with_reducible rfl
                       rotate_left
                       ·simp only [Act.put, List.setIfInBounds_toArray, List.set_cons_zero, List.set_cons_succ, i64_w, i32_w]
                        rfl
                       refine pure_ (i := 6) (N := some 65) (v := ?_) (a' := ?_) #[true, false, true, false, false, false, true, false, false, false, false, false, false, false] rfl rfl (any_of HT_.out (by kernel_rfl)) (fun _ _ _ h => h) (Or.inl ⟨by rfl, ?_⟩) ?_ ?_
                       rotate_left
                       ·intro w'
                        go_simp
                        with_reducible rfl
                       rotate_left
                       ·simp only [Act.put, List.setIfInBounds_toArray, List.set_cons_zero, List.set_cons_succ, i64_w, i32_w]
                        rfl
                       refine pure_ (i := 8) (N := some 67) (v := ?_) (a' := ?_) #[true, false, true, false, false, false, true, false, true, false, false, false, false, false] rfl rfl (any_of HT_.out (by kernel_rfl)) (fun _ _ _ h => h) (Or.inl ⟨by rfl, ?_⟩) ?_ ?_
                       rotate_left
                       ·intro w'
                        go_simp
                        with_reducible rfl
                       rotate_left
                       ·simp only [Act.put, List.setIfInBounds_toArray, List.set_cons_zero, List.set_cons_succ, i64_w, i32_w]
                        rfl
                       refine inv_at [1, 3, 4, 5, 7, 9, 10, 11, 12, 13] (fun a0_ b a w' => ∃ (v142 : Value) (adz_v142 : Addr) (v146 : Value) (adz_v146 : Addr) (m3_ : Value) (m9_ : Value), a = putSel a0_ b [(1, 60, v142), (3, 62, m3_), (4, 63, .int .i64 (rd y141 x11_3)), (5, 64, .int .i64 (wrap64 ((Int.tmod (rd x7_2 x8_2) ((rdOf ByteArray.empty l0 0).size : Int)) + (rd y141 x11_3)))), (7, 66, v146), (9, 68, m9_), (10, 69, .int .i64 (rd y145 x11_3)), (11, 70, .int .i64 (wrap64 ((wrap64 (Int.tdiv (rd x7_2 x8_2) ((rdOf ByteArray.empty l0 0).size : Int))) + (rd y145 x11_3)))), (12, 12, .int .i64 (wrap64 ((Int.tmod (rd x7_2 x8_2) ((rdOf ByteArray.empty l0 0).size : Int)) + (rd y141 x11_3)))), (13, 13, .int .i64 (wrap64 ((wrap64 (Int.tdiv (rd x7_2 x8_2) ((rdOf ByteArray.empty l0 0).size : Int))) + (rd y145 x11_3))))] ∧ (Kd.R (Kd.int .i64) 3 w' w.heap.size (fun k_ => some k_ ≠ (u7 : Value).ownBlock) u3 x3_1) ∧ (Kd.R Kd.bool 4 w' w.heap.size (fun _ => True) (.slice (some ⟨go11, 0, none⟩) x4_3.length co5) x4_3) ∧ (Kd.R (Kd.int .i64) 3 w' w.heap.size (fun k_ => some k_ ≠ (u3 : Value).ownBlock) u7 x7_3) ∧ (Below w.heap.size w w') ∧ (b 1 = true → Kd.R (Kd.int .i64) 3 w' w.heap.size (fun k_ => some k_ ≠ (u3 : Value).ownBlock ∧ some k_ ≠ (u7 : Value).ownBlock) v142 y141) ∧ (b 1 = true → ∃ c_, (v142 : Value) = .slice (some adz_v142) y141.length c_) ∧ (b 7 = true → Kd.R (Kd.int .i64) 3 w' w.heap.size (fun k_ => some k_ ≠ (u3 : Value).ownBlock ∧ some k_ ≠ (u7 : Value).ownBlock) v146 y145) ∧ (b 7 = true → ∃ c_, (v146 : Value) = .slice (some adz_v146) y145.length c_) ∧ (b 3 = true → (m3_ : Value) = .pointer (some (adz_v142.add (x11_3).toNat))) ∧ (b 9 = true → (m9_ : Value) = .pointer (some (adz_v146.add (x11_3).toNat)))) HT_.out HW_.out (by kernel_rfl) (by kernel_rfl) ?_ ?_ ?_
                       ·exact ⟨.bool false, ⟨0, 0, none⟩, .bool false, ⟨0, 0, none⟩, .bool false, .bool false, by simp only [putSel, Bool.false_eq_true, if_false], HO_3.out, HO_4.out, HO_7.out, HB.out, fun h_ => absurd h_ (by decide), fun h_ => absurd h_ (by decide), fun h_ => absurd h_ (by decide), fun h_ => absurd h_ (by decide), fun h_ => absurd h_ (by decide), fun h_ => absurd h_ (by decide)⟩
                       ·skip
                        clear HB HO_3 HO_4 HO_7
                        refine steps_cons ?_ ?_
                        ·rintro b a w' ⟨v142, adz_v142, v146, adz_v146, m3_, m9_, ha, Q_HO_3, Q_HO_4, Q_HO_7, Q_HB, Q_HO143, Q_HA_HO143, Q_HO147, Q_HA_HO147, Q_X3_, Q_X9_⟩ hb_ hon hoff
                         refine ⟨_, rfl, fun K hK => ?_⟩
                         replace ha := Aside0.mk ha
                         have HO_3 := Aside0.mk Q_HO_3
                         have HO_4 := Aside0.mk Q_HO_4
                         have HO_7 := Aside0.mk Q_HO_7
                         have HB := Aside0.mk Q_HB
                         refine Kd.R_lit_step (Kd.int .i64) _ 3 ?hg (N := 60) ?hd (xs := ([0, 1, 0, (-1)] : List Int)) (inner := [.int .i64 0, .int .i64 1, .int .i64 0, .int .i64 (-1)]) (ok := fun _ => True) (okp := fun _ => True) ?hr ?hp (fun _ hk => hk) trivial (Below.refl _ _) (Nat.le_refl _) (by simp) ?_; (case hd => rfl); (case hg => rfl); (case hr => first | (go_simp; done) | (go_simp; rfl)); (case hp => exact (Reps.one (show Kd.M (Kd.int .i64) _ _ _ 0 [.int .i64 0] from rfl) (Reps.one (show Kd.M (Kd.int .i64) _ _ _ 1 [.int .i64 1] from rfl) (Reps.one (show Kd.M (Kd.int .i64) _ _ _ 0 [.int .i64 0] from rfl) (Reps.one (show Kd.M (Kd.int .i64) _ _ _ (-1) [.int .i64 (-1)] from rfl) (Reps.none _ _))))))
                         intro v142 w48 ho49 hb hg_ hnew_
                         clear hg_ hnew_
                         (first | rw [← Ny141.out] at ho49 | (simp only [Int.reduceToNat] at ho49; rw [← Ny141.out] at ho49))
                         have n0_ := Aside0.mk (Kd.R_elder' (by (with_reducible repeat (first | apply Kd.R_alloc | apply Kd.R_drewN | apply Kd.R_drew)); exact HO_3.out) (Kd.R_base ho49) hb)
                         have n1_ := Aside0.mk (Kd.R_below (by (with_reducible repeat (first | apply Kd.R_alloc | apply Kd.R_drewN | apply Kd.R_drew)); exact HO_4.out) hb)
                         have n2_ := Aside0.mk (Kd.R_elder' (by (with_reducible repeat (first | apply Kd.R_alloc | apply Kd.R_drewN | apply Kd.R_drew)); exact HO_7.out) (Kd.R_base ho49) hb)
                         have n3_ := Aside0.mk (Kd.R_lower (Kd.R_new' (Kd.R_new' ho49 (Kd.R_lt (by (with_reducible repeat (first | apply Kd.R_alloc | apply Kd.R_drewN | apply Kd.R_drew)); exact HO_3.out))) (Kd.R_lt (by (with_reducible repeat (first | apply Kd.R_alloc | apply Kd.R_drewN | apply Kd.R_drew)); exact HO_7.out))) (below_size (by repeat (first | (with_reducible first | exact HB.out | apply below_alloc | apply pw_below_drewN | apply below_drew1) | exact HB.out))))
                         have n4_ := Aside0.mk (below_step (by repeat (first | (with_reducible first | exact HB.out | apply below_alloc | apply pw_below_drewN | apply below_drew1) | exact HB.out)) hb)
                         have z_HO147 := fun (h0_ : b 7 = true) => (show Kd.R (Kd.int .i64) 3 w48 w.heap.size (fun k_ => some k_ ≠ (u3 : Value).ownBlock ∧ some k_ ≠ (u7 : Value).ownBlock) v146 y145 from by first | exact (Kd.R_elder' (by (with_reducible repeat (first | apply Kd.R_alloc | apply Kd.R_drewN | apply Kd.R_drew)); exact (Q_HO147 h0_)) (Kd.R_base ho49) hb) | exact Kd.R_mono (Kd.R_elder' (by (with_reducible repeat (first | apply Kd.R_alloc | apply Kd.R_drewN | apply Kd.R_drew)); exact (Q_HO147 h0_)) (Kd.R_base ho49) hb) (fun _ h_ => by first | trivial | exact h_ | exact h_.1))
                         clear HO_3
                         clear HO_4
                         clear HO_7
                         clear HB
                         have HO_3 := n0_
                         have HO_4 := n1_
                         have HO_7 := n2_
                         have HO143 := n3_
                         have HB := n4_
                         clear n0_ n1_ n2_ n3_ n4_
                         clear hb ho49
                         obtain ⟨Ao50, co50, eo50⟩ := Kd.R_slice HO143.out
                         subst eo50
                         obtain ⟨ado50, fo50, _⟩ := Kd.at_int (Kd.R_reads' HO143.out).2.2 0 (by decide) (by rw [Ny141.out]; simp)
                         cases fo50
                         refine hK.out _ _ ⟨.slice (some ado50) y141.length co50, ado50, v146, adz_v146, m3_, m9_, (by rw [ha.out]; exact putSel_upk 0 hb_ rfl rfl rfl), (by (with_reducible repeat (first | apply Kd.R_alloc | apply Kd.R_drewN | apply Kd.R_drew)); first | exact HO_3.out | exact Kd.R_mono HO_3.out (fun _ hk => hk.1) | exact Kd.R_mono HO_3.out (fun _ hk => hk.2)), (by (with_reducible repeat (first | apply Kd.R_alloc | apply Kd.R_drewN | apply Kd.R_drew)); exact HO_4.out), (by (with_reducible repeat (first | apply Kd.R_alloc | apply Kd.R_drewN | apply Kd.R_drew)); first | exact HO_7.out | exact Kd.R_mono HO_7.out (fun _ hk => hk.1) | exact Kd.R_mono HO_7.out (fun _ hk => hk.2)), (by repeat (first | (with_reducible first | exact HB.out | apply below_alloc | apply pw_below_drewN | apply below_drew1) | exact HB.out)), fun _ => (by (with_reducible repeat (first | apply Kd.R_alloc | apply Kd.R_drewN | apply Kd.R_drew)); exact Kd.R_mono HO143.out (fun _ hk => ⟨hk.1.2, hk.2⟩)), fun _ => ⟨_, rfl⟩, z_HO147, Q_HA_HO147, fun h0_ => absurd ((hoff 3 (by kernel_rfl)).symm.trans h0_) (by decide), Q_X9_⟩
                        refine steps_cons ?_ ?_
                        ·rintro b a w' ⟨v142, adz_v142, v146, adz_v146, m3_, m9_, ha, Q_HO_3, Q_HO_4, Q_HO_7, Q_HB, Q_HO143, Q_HA_HO143, Q_HO147, Q_HA_HO147, Q_X3_, Q_X9_⟩ hb_ hon hoff
                         refine ⟨_, rfl, fun K hK => ?_⟩
                         have e60 : a.tmps[60]? = some (v142) := by rw [ha]; exact putSel_on (e := (1, 60, v142)) 0 rfl rfl (hon 1 (by kernel_rfl)) rfl
                         have e61 : a.tmps[61]? = some (.int .i64 x11_3) := by rw [ha]; exact (putSel_off rfl).trans rfl
                         replace ha := Aside0.mk ha
                         have HO_3 := Aside0.mk Q_HO_3
                         have HO_4 := Aside0.mk Q_HO_4
                         have HO_7 := Aside0.mk Q_HO_7
                         have HB := Aside0.mk Q_HB
                         have HO143 := Aside0.mk (Q_HO143 (hon 1 (by kernel_rfl)))
                         have HA_HO143 := Aside0.mk (Q_HA_HO143 (hon 1 (by kernel_rfl)))
                         obtain ⟨c_, hv_⟩ := HA_HO143.out
                         rw [hv_] at e60
                         refine value_ (w1 := w') (v := .pointer (some (adz_v142.add (x11_3).toNat))) (by rfl) rfl ?_ ?_
                         ·go_simp
                          (try simp only [i64_w])
                          try rfl
                         refine hK.out _ _ ⟨v142, adz_v142, v146, adz_v146, (.pointer (some (adz_v142.add (x11_3).toNat))), m9_, (by rw [ha.out]; exact putSel_upk 1 hb_ rfl rfl rfl), Q_HO_3, Q_HO_4, Q_HO_7, Q_HB, Q_HO143, Q_HA_HO143, Q_HO147, Q_HA_HO147, fun _ => rfl, Q_X9_⟩
                        refine steps_cons ?_ ?_
                        ·rintro b a w' ⟨v142, adz_v142, v146, adz_v146, m3_, m9_, ha, Q_HO_3, Q_HO_4, Q_HO_7, Q_HB, Q_HO143, Q_HA_HO143, Q_HO147, Q_HA_HO147, Q_X3_, Q_X9_⟩ hb_ hon hoff
                         refine ⟨_, rfl, fun K hK => ?_⟩
                         have e62 : a.tmps[62]? = some (m3_) := by rw [ha]; exact putSel_on (e := (3, 62, m3_)) 1 rfl rfl (hon 3 (by kernel_rfl)) rfl
                         rw [Q_X3_ (hon 3 (by kernel_rfl))] at e62
                         replace ha := Aside0.mk ha
                         have HO_3 := Aside0.mk Q_HO_3
                         have HO_4 := Aside0.mk Q_HO_4
                         have HO_7 := Aside0.mk Q_HO_7
                         have HB := Aside0.mk Q_HB
                         have HO143 := Aside0.mk (Q_HO143 (hon 1 (by kernel_rfl)))
                         have HA_HO143 := Aside0.mk (Q_HA_HO143 (hon 1 (by kernel_rfl)))
                         obtain ⟨c_, hv_⟩ := HA_HO143.out
                         have hF_ := HO143.out
                         rw [hv_] at hF_
                         obtain ⟨ad_, ea_, hx_⟩ := Kd.at_int (Kd.R_reads' hF_).2.2 x11_3 (of_eq_true pi144) (of_eq_true qi144)
                         cases ea_
                         refine value_ (w1 := w') (v := .int .i64 (rd y141 x11_3)) (by rfl) rfl ?_ ?_
                         ·go_simp
                          (try simp only [i64_w])
                          try rfl
                         refine hK.out _ _ ⟨v142, adz_v142, v146, adz_v146, m3_, m9_, (by rw [ha.out]; exact putSel_upk 2 hb_ rfl rfl rfl), Q_HO_3, Q_HO_4, Q_HO_7, Q_HB, Q_HO143, Q_HA_HO143, Q_HO147, Q_HA_HO147, Q_X3_, Q_X9_⟩
                        refine steps_cons ?_ ?_
                        ·rintro b a w' ⟨v142, adz_v142, v146, adz_v146, m3_, m9_, ha, Q_HO_3, Q_HO_4, Q_HO_7, Q_HB, Q_HO143, Q_HA_HO143, Q_HO147, Q_HA_HO147, Q_X3_, Q_X9_⟩ hb_ hon hoff
                         refine ⟨_, rfl, fun K hK => ?_⟩
                         have e59 : a.tmps[59]? = some (.int .i64 (Int.tmod (rd x7_2 x8_2) ((rdOf ByteArray.empty l0 0).size : Int))) := by rw [ha]; exact (putSel_off rfl).trans rfl
                         have e63 : a.tmps[63]? = some (.int .i64 (rd y141 x11_3)) := by rw [ha]; exact putSel_on (e := (4, 63, .int .i64 (rd y141 x11_3))) 2 rfl rfl (hon 4 (by kernel_rfl)) rfl
                         replace ha := Aside0.mk ha
                         have HO_3 := Aside0.mk Q_HO_3
                         have HO_4 := Aside0.mk Q_HO_4
                         have HO_7 := Aside0.mk Q_HO_7
                         have HB := Aside0.mk Q_HB
                         have HO143 := Aside0.mk (Q_HO143 (hon 1 (by kernel_rfl)))
                         have HA_HO143 := Aside0.mk (Q_HA_HO143 (hon 1 (by kernel_rfl)))
                         refine value_ (w1 := w') (v := .int .i64 (wrap64 ((Int.tmod (rd x7_2 x8_2) ((rdOf ByteArray.empty l0 0).size : Int)) + (rd y141 x11_3)))) (by rfl) rfl ?_ ?_
                         ·go_simp
                          (try simp only [i64_w])
                          try rfl
                         refine hK.out _ _ ⟨v142, adz_v142, v146, adz_v146, m3_, m9_, (by rw [ha.out]; exact putSel_upk 3 hb_ rfl rfl rfl), Q_HO_3, Q_HO_4, Q_HO_7, Q_HB, Q_HO143, Q_HA_HO143, Q_HO147, Q_HA_HO147, Q_X3_, Q_X9_⟩
                        refine steps_cons ?_ ?_
                        ·rintro b a w' ⟨v142, adz_v142, v146, adz_v146, m3_, m9_, ha, Q_HO_3, Q_HO_4, Q_HO_7, Q_HB, Q_HO143, Q_HA_HO143, Q_HO147, Q_HA_HO147, Q_X3_, Q_X9_⟩ hb_ hon hoff
                         refine ⟨_, rfl, fun K hK => ?_⟩
                         replace ha := Aside0.mk ha
                         have HO_3 := Aside0.mk Q_HO_3
                         have HO_4 := Aside0.mk Q_HO_4
                         have HO_7 := Aside0.mk Q_HO_7
                         have HB := Aside0.mk Q_HB
                         refine Kd.R_lit_step (Kd.int .i64) _ 3 ?hg (N := 66) ?hd (xs := ([(-1), 0, 1, 0] : List Int)) (inner := [.int .i64 (-1), .int .i64 0, .int .i64 1, .int .i64 0]) (ok := fun _ => True) (okp := fun _ => True) ?hr ?hp (fun _ hk => hk) trivial (Below.refl _ _) (Nat.le_refl _) (by simp) ?_; (case hd => rfl); (case hg => rfl); (case hr => first | (go_simp; done) | (go_simp; rfl)); (case hp => exact (Reps.one (show Kd.M (Kd.int .i64) _ _ _ (-1) [.int .i64 (-1)] from rfl) (Reps.one (show Kd.M (Kd.int .i64) _ _ _ 0 [.int .i64 0] from rfl) (Reps.one (show Kd.M (Kd.int .i64) _ _ _ 1 [.int .i64 1] from rfl) (Reps.one (show Kd.M (Kd.int .i64) _ _ _ 0 [.int .i64 0] from rfl) (Reps.none _ _))))))
                         intro v146 w48 ho49 hb hg_ hnew_
                         clear hg_ hnew_
                         (first | rw [← Ny145.out] at ho49 | (simp only [Int.reduceToNat] at ho49; rw [← Ny145.out] at ho49))
                         have n0_ := Aside0.mk (Kd.R_elder' (by (with_reducible repeat (first | apply Kd.R_alloc | apply Kd.R_drewN | apply Kd.R_drew)); exact HO_3.out) (Kd.R_base ho49) hb)
                         have n1_ := Aside0.mk (Kd.R_below (by (with_reducible repeat (first | apply Kd.R_alloc | apply Kd.R_drewN | apply Kd.R_drew)); exact HO_4.out) hb)
                         have n2_ := Aside0.mk (Kd.R_elder' (by (with_reducible repeat (first | apply Kd.R_alloc | apply Kd.R_drewN | apply Kd.R_drew)); exact HO_7.out) (Kd.R_base ho49) hb)
                         have n3_ := Aside0.mk (Kd.R_lower (Kd.R_new' (Kd.R_new' ho49 (Kd.R_lt (by (with_reducible repeat (first | apply Kd.R_alloc | apply Kd.R_drewN | apply Kd.R_drew)); exact HO_3.out))) (Kd.R_lt (by (with_reducible repeat (first | apply Kd.R_alloc | apply Kd.R_drewN | apply Kd.R_drew)); exact HO_7.out))) (below_size (by repeat (first | (with_reducible first | exact HB.out | apply below_alloc | apply pw_below_drewN | apply below_drew1) | exact HB.out))))
                         have n4_ := Aside0.mk (below_step (by repeat (first | (with_reducible first | exact HB.out | apply below_alloc | apply pw_below_drewN | apply below_drew1) | exact HB.out)) hb)
                         have z_HO143 := fun (h0_ : b 1 = true) => (show Kd.R (Kd.int .i64) 3 w48 w.heap.size (fun k_ => some k_ ≠ (u3 : Value).ownBlock ∧ some k_ ≠ (u7 : Value).ownBlock) v142 y141 from by first | exact (Kd.R_elder' (by (with_reducible repeat (first | apply Kd.R_alloc | apply Kd.R_drewN | apply Kd.R_drew)); exact (Q_HO143 h0_)) (Kd.R_base ho49) hb) | exact Kd.R_mono (Kd.R_elder' (by (with_reducible repeat (first | apply Kd.R_alloc | apply Kd.R_drewN | apply Kd.R_drew)); exact (Q_HO143 h0_)) (Kd.R_base ho49) hb) (fun _ h_ => by first | trivial | exact h_ | exact h_.1))
                         clear HO_3
                         clear HO_4
                         clear HO_7
                         clear HB
                         have HO_3 := n0_
                         have HO_4 := n1_
                         have HO_7 := n2_
                         have HO147 := n3_
                         have HB := n4_
                         clear n0_ n1_ n2_ n3_ n4_
                         clear hb ho49
                         obtain ⟨Ao50, co50, eo50⟩ := Kd.R_slice HO147.out
                         subst eo50
                         obtain ⟨ado50, fo50, _⟩ := Kd.at_int (Kd.R_reads' HO147.out).2.2 0 (by decide) (by rw [Ny145.out]; simp)
                         cases fo50
                         refine hK.out _ _ ⟨v142, adz_v142, .slice (some ado50) y145.length co50, ado50, m3_, m9_, (by rw [ha.out]; exact putSel_upk 4 hb_ rfl rfl rfl), (by (with_reducible repeat (first | apply Kd.R_alloc | apply Kd.R_drewN | apply Kd.R_drew)); first | exact HO_3.out | exact Kd.R_mono HO_3.out (fun _ hk => hk.1) | exact Kd.R_mono HO_3.out (fun _ hk => hk.2)), (by (with_reducible repeat (first | apply Kd.R_alloc | apply Kd.R_drewN | apply Kd.R_drew)); exact HO_4.out), (by (with_reducible repeat (first | apply Kd.R_alloc | apply Kd.R_drewN | apply Kd.R_drew)); first | exact HO_7.out | exact Kd.R_mono HO_7.out (fun _ hk => hk.1) | exact Kd.R_mono HO_7.out (fun _ hk => hk.2)), (by repeat (first | (with_reducible first | exact HB.out | apply below_alloc | apply pw_below_drewN | apply below_drew1) | exact HB.out)), z_HO143, Q_HA_HO143, fun _ => (by (with_reducible repeat (first | apply Kd.R_alloc | apply Kd.R_drewN | apply Kd.R_drew)); exact Kd.R_mono HO147.out (fun _ hk => ⟨hk.1.2, hk.2⟩)), fun _ => ⟨_, rfl⟩, Q_X3_, fun h0_ => absurd ((hoff 9 (by kernel_rfl)).symm.trans h0_) (by decide)⟩
                        refine steps_cons ?_ ?_
                        ·rintro b a w' ⟨v142, adz_v142, v146, adz_v146, m3_, m9_, ha, Q_HO_3, Q_HO_4, Q_HO_7, Q_HB, Q_HO143, Q_HA_HO143, Q_HO147, Q_HA_HO147, Q_X3_, Q_X9_⟩ hb_ hon hoff
                         refine ⟨_, rfl, fun K hK => ?_⟩
                         have e66 : a.tmps[66]? = some (v146) := by rw [ha]; exact putSel_on (e := (7, 66, v146)) 4 rfl rfl (hon 7 (by kernel_rfl)) rfl
                         have e67 : a.tmps[67]? = some (.int .i64 x11_3) := by rw [ha]; exact (putSel_off rfl).trans rfl
                         replace ha := Aside0.mk ha
                         have HO_3 := Aside0.mk Q_HO_3
                         have HO_4 := Aside0.mk Q_HO_4
                         have HO_7 := Aside0.mk Q_HO_7
                         have HB := Aside0.mk Q_HB
                         have HO147 := Aside0.mk (Q_HO147 (hon 7 (by kernel_rfl)))
                         have HA_HO147 := Aside0.mk (Q_HA_HO147 (hon 7 (by kernel_rfl)))
                         obtain ⟨c_, hv_⟩ := HA_HO147.out
                         rw [hv_] at e66
                         refine value_ (w1 := w') (v := .pointer (some (adz_v146.add (x11_3).toNat))) (by rfl) rfl ?_ ?_
                         ·go_simp
                          (try simp only [i64_w])
                          try rfl
                         refine hK.out _ _ ⟨v142, adz_v142, v146, adz_v146, m3_, (.pointer (some (adz_v146.add (x11_3).toNat))), (by rw [ha.out]; exact putSel_upk 5 hb_ rfl rfl rfl), Q_HO_3, Q_HO_4, Q_HO_7, Q_HB, Q_HO143, Q_HA_HO143, Q_HO147, Q_HA_HO147, Q_X3_, fun _ => rfl⟩
                        refine steps_cons ?_ ?_
                        ·rintro b a w' ⟨v142, adz_v142, v146, adz_v146, m3_, m9_, ha, Q_HO_3, Q_HO_4, Q_HO_7, Q_HB, Q_HO143, Q_HA_HO143, Q_HO147, Q_HA_HO147, Q_X3_, Q_X9_⟩ hb_ hon hoff
                         refine ⟨_, rfl, fun K hK => ?_⟩
                         have e68 : a.tmps[68]? = some (m9_) := by rw [ha]; exact putSel_on (e := (9, 68, m9_)) 5 rfl rfl (hon 9 (by kernel_rfl)) rfl
                         rw [Q_X9_ (hon 9 (by kernel_rfl))] at e68
                         replace ha := Aside0.mk ha
                         have HO_3 := Aside0.mk Q_HO_3
                         have HO_4 := Aside0.mk Q_HO_4
                         have HO_7 := Aside0.mk Q_HO_7
                         have HB := Aside0.mk Q_HB
                         have HO147 := Aside0.mk (Q_HO147 (hon 7 (by kernel_rfl)))
                         have HA_HO147 := Aside0.mk (Q_HA_HO147 (hon 7 (by kernel_rfl)))
                         obtain ⟨c_, hv_⟩ := HA_HO147.out
                         have hF_ := HO147.out
                         rw [hv_] at hF_
                         obtain ⟨ad_, ea_, hx_⟩ := Kd.at_int (Kd.R_reads' hF_).2.2 x11_3 (of_eq_true pi148) (of_eq_true qi148)
                         cases ea_
                         refine value_ (w1 := w') (v := .int .i64 (rd y145 x11_3)) (by rfl) rfl ?_ ?_
                         ·go_simp
                          (try simp only [i64_w])
                          try rfl
                         refine hK.out _ _ ⟨v142, adz_v142, v146, adz_v146, m3_, m9_, (by rw [ha.out]; exact putSel_upk 6 hb_ rfl rfl rfl), Q_HO_3, Q_HO_4, Q_HO_7, Q_HB, Q_HO143, Q_HA_HO143, Q_HO147, Q_HA_HO147, Q_X3_, Q_X9_⟩
                        refine steps_cons ?_ ?_
                        ·rintro b a w' ⟨v142, adz_v142, v146, adz_v146, m3_, m9_, ha, Q_HO_3, Q_HO_4, Q_HO_7, Q_HB, Q_HO143, Q_HA_HO143, Q_HO147, Q_HA_HO147, Q_X3_, Q_X9_⟩ hb_ hon hoff
                         refine ⟨_, rfl, fun K hK => ?_⟩
                         have e65 : a.tmps[65]? = some (.int .i64 (wrap64 (Int.tdiv (rd x7_2 x8_2) ((rdOf ByteArray.empty l0 0).size : Int)))) := by rw [ha]; exact (putSel_off rfl).trans rfl
                         have e69 : a.tmps[69]? = some (.int .i64 (rd y145 x11_3)) := by rw [ha]; exact putSel_on (e := (10, 69, .int .i64 (rd y145 x11_3))) 6 rfl rfl (hon 10 (by kernel_rfl)) rfl
                         replace ha := Aside0.mk ha
                         have HO_3 := Aside0.mk Q_HO_3
                         have HO_4 := Aside0.mk Q_HO_4
                         have HO_7 := Aside0.mk Q_HO_7
                         have HB := Aside0.mk Q_HB
                         have HO147 := Aside0.mk (Q_HO147 (hon 7 (by kernel_rfl)))
                         have HA_HO147 := Aside0.mk (Q_HA_HO147 (hon 7 (by kernel_rfl)))
                         refine value_ (w1 := w') (v := .int .i64 (wrap64 ((wrap64 (Int.tdiv (rd x7_2 x8_2) ((rdOf ByteArray.empty l0 0).size : Int))) + (rd y145 x11_3)))) (by rfl) rfl ?_ ?_
                         ·go_simp
                          (try simp only [i64_w])
                          try rfl
                         refine hK.out _ _ ⟨v142, adz_v142, v146, adz_v146, m3_, m9_, (by rw [ha.out]; exact putSel_upk 7 hb_ rfl rfl rfl), Q_HO_3, Q_HO_4, Q_HO_7, Q_HB, Q_HO143, Q_HA_HO143, Q_HO147, Q_HA_HO147, Q_X3_, Q_X9_⟩
                        refine steps_cons ?_ ?_
                        ·rintro b a w' ⟨v142, adz_v142, v146, adz_v146, m3_, m9_, ha, Q_HO_3, Q_HO_4, Q_HO_7, Q_HB, Q_HO143, Q_HA_HO143, Q_HO147, Q_HA_HO147, Q_X3_, Q_X9_⟩ hb_ hon hoff
                         refine ⟨_, rfl, fun K hK => ?_⟩
                         have e64 : a.tmps[64]? = some (.int .i64 (wrap64 ((Int.tmod (rd x7_2 x8_2) ((rdOf ByteArray.empty l0 0).size : Int)) + (rd y141 x11_3)))) := by rw [ha]; exact putSel_on (e := (5, 64, .int .i64 (wrap64 ((Int.tmod (rd x7_2 x8_2) ((rdOf ByteArray.empty l0 0).size : Int)) + (rd y141 x11_3))))) 3 rfl rfl (hon 5 (by kernel_rfl)) rfl
                         replace ha := Aside0.mk ha
                         have HO_3 := Aside0.mk Q_HO_3
                         have HO_4 := Aside0.mk Q_HO_4
                         have HO_7 := Aside0.mk Q_HO_7
                         have HB := Aside0.mk Q_HB
                         have HO143 := Aside0.mk (Q_HO143 (hon 1 (by kernel_rfl)))
                         have HA_HO143 := Aside0.mk (Q_HA_HO143 (hon 1 (by kernel_rfl)))
                         refine value_ (w1 := w') (v := .int .i64 (wrap64 ((Int.tmod (rd x7_2 x8_2) ((rdOf ByteArray.empty l0 0).size : Int)) + (rd y141 x11_3)))) (by rfl) rfl ?_ ?_
                         ·go_simp
                          (try simp only [i64_w])
                          try rfl
                         refine hK.out _ _ ⟨v142, adz_v142, v146, adz_v146, m3_, m9_, (by rw [ha.out]; exact putSel_upk 8 hb_ rfl rfl rfl), Q_HO_3, Q_HO_4, Q_HO_7, Q_HB, Q_HO143, Q_HA_HO143, Q_HO147, Q_HA_HO147, Q_X3_, Q_X9_⟩
                        refine steps_cons ?_ ?_
                        ·rintro b a w' ⟨v142, adz_v142, v146, adz_v146, m3_, m9_, ha, Q_HO_3, Q_HO_4, Q_HO_7, Q_HB, Q_HO143, Q_HA_HO143, Q_HO147, Q_HA_HO147, Q_X3_, Q_X9_⟩ hb_ hon hoff
                         refine ⟨_, rfl, fun K hK => ?_⟩
                         have e70 : a.tmps[70]? = some (.int .i64 (wrap64 ((wrap64 (Int.tdiv (rd x7_2 x8_2) ((rdOf ByteArray.empty l0 0).size : Int))) + (rd y145 x11_3)))) := by rw [ha]; exact putSel_on (e := (11, 70, .int .i64 (wrap64 ((wrap64 (Int.tdiv (rd x7_2 x8_2) ((rdOf ByteArray.empty l0 0).size : Int))) + (rd y145 x11_3))))) 7 rfl rfl (hon 11 (by kernel_rfl)) rfl
                         replace ha := Aside0.mk ha
                         have HO_3 := Aside0.mk Q_HO_3
                         have HO_4 := Aside0.mk Q_HO_4
                         have HO_7 := Aside0.mk Q_HO_7
                         have HB := Aside0.mk Q_HB
                         have HO143 := Aside0.mk (Q_HO143 (hon 1 (by kernel_rfl)))
                         have HA_HO143 := Aside0.mk (Q_HA_HO143 (hon 1 (by kernel_rfl)))
                         have HO147 := Aside0.mk (Q_HO147 (hon 7 (by kernel_rfl)))
                         have HA_HO147 := Aside0.mk (Q_HA_HO147 (hon 7 (by kernel_rfl)))
                         refine value_ (w1 := w') (v := .int .i64 (wrap64 ((wrap64 (Int.tdiv (rd x7_2 x8_2) ((rdOf ByteArray.empty l0 0).size : Int))) + (rd y145 x11_3)))) (by rfl) rfl ?_ ?_
                         ·go_simp
                          (try simp only [i64_w])
                          try rfl
                         refine hK.out _ _ ⟨v142, adz_v142, v146, adz_v146, m3_, m9_, (by rw [ha.out]; exact putSel_upk 9 hb_ rfl rfl rfl), Q_HO_3, Q_HO_4, Q_HO_7, Q_HB, Q_HO143, Q_HA_HO143, Q_HO147, Q_HA_HO147, Q_X3_, Q_X9_⟩
                        exact steps_nil
                       rintro b a w54 hall ⟨v142, adz_v142, v146, adz_v146, m3_, m9_, ha, Q_HO_3, Q_HO_4, Q_HO_7, Q_HB, Q_HO143, Q_HA_HO143, Q_HO147, Q_HA_HO147, Q_X3_, Q_X9_⟩
                       clear HB HO_3 HO_4 HO_7
                       have hb1_ := hall 1 (by kernel_rfl)
                       have hb3_ := hall 3 (by kernel_rfl)
                       have hb4_ := hall 4 (by kernel_rfl)
                       have hb5_ := hall 5 (by kernel_rfl)
                       have hb7_ := hall 7 (by kernel_rfl)
                       have hb9_ := hall 9 (by kernel_rfl)
                       have hb10_ := hall 10 (by kernel_rfl)
                       have hb11_ := hall 11 (by kernel_rfl)
                       have hb12_ := hall 12 (by kernel_rfl)
                       have hb13_ := hall 13 (by kernel_rfl)
                       subst ha
                       obtain rfl := Q_X3_ hb3_
                       obtain rfl := Q_X9_ hb9_
                       simp only [putSel, hb1_, hb3_, hb4_, hb5_, hb7_, hb9_, hb10_, hb11_, hb12_, hb13_, if_true, Act.put, List.setIfInBounds_toArray, List.set_cons_zero, List.set_cons_succ]
                       have HO_3 := Aside0.mk Q_HO_3
                       clear Q_HO_3
                       have HO_4 := Aside0.mk Q_HO_4
                       clear Q_HO_4
                       have HO_7 := Aside0.mk Q_HO_7
                       clear Q_HO_7
                       have HB := Aside0.mk Q_HB
                       clear Q_HB
                       have HO143 := Aside0.mk (Q_HO143 hb1_)
                       clear Q_HO143
                       have HA_HO143 := Aside0.mk (Q_HA_HO143 hb1_)
                       clear Q_HA_HO143
                       have HO147 := Aside0.mk (Q_HO147 hb7_)
                       clear Q_HO147
                       have HA_HO147 := Aside0.mk (Q_HA_HO147 hb7_)
                       clear Q_HA_HO147
                       clear hall hb1_ hb3_ hb4_ hb5_ hb7_ hb9_ hb10_ hb11_ hb12_ hb13_
                       obtain ⟨co55, eo55⟩ := HA_HO143.out
                       clear HA_HO143
                       subst eo55
                       obtain ⟨co56, eo56⟩ := HA_HO147.out
                       clear HA_HO147
                       subst eo56
                       try go_wp2_with (first | ((with_reducible refine gate_callee (f := 62) rfl ?_); refine goesL_ (some 74) rfl rfl Tryd.func62 (by kernel_rfl) rfl #[.slice (some ad133) l0.length c0, .int .i64 (wrap64 ((Int.tmod (rd x7_2 x8_2) ((rdOf ByteArray.empty l0 0).size : Int)) + (rd y141 x11_3))), .int .i64 (wrap64 ((wrap64 (Int.tdiv (rd x7_2 x8_2) ((rdOf ByteArray.empty l0 0).size : Int))) + (rd y145 x11_3)))] rfl (by (try simp only [List.map_toArray, List.map_cons, List.map_nil]); first | done | rfl | (simp only [List.length_drop, List.length_take]; rfl)) ?_; (with_reducible refine (spec_mlAt.calls _ _ l0 (wrap64 ((Int.tmod (rd x7_2 x8_2) ((rdOf ByteArray.empty l0 0).size : Int)) + (rd y141 x11_3))) (wrap64 ((wrap64 (Int.tdiv (rd x7_2 x8_2) ((rdOf ByteArray.empty l0 0).size : Int))) + (rd y145 x11_3))) true _ ?side1 ?side2 A25.out).mono ?_); (case side1 => repeat (first | exact (Kd.C_below HR0.out HB.out) | (with_reducible refine Kd.C_alloc ?_ _) | (with_reducible refine Kd.C_drewN ?_ _) | (with_reducible refine Kd.C_drew ?_))); (case side2 => exact HC0.out); rintro e w' ⟨rfl, ⟨nd, rfl⟩⟩; refine ⟨_, rfl, ?_⟩; have p150 : 0 ≤ ((ji27) : Int) := of_decide_eq_true (by first | (with_reducible assumption) | assumption); have q150 : (ji27) < (x4_3.length : Int) := of_decide_eq_true (by first | (with_reducible assumption) | assumption); obtain ⟨ad150, e150, hx150_0⟩ := Kd.at_bool (Kd.R_reads' HO_4.out).2.2 (ji27) p150 q150; (try rw [← Nbq9.out] at hx150_0); (try rw [← Nbq30.out] at hx150_0); obtain rfl : (⟨go11, 0, none⟩ : Addr) = ad150 := (by injection e150); (first | simp only [add_plain] at hx150_0 | simp only [add_at] at hx150_0 | simp only [Addr.add, Nat.zero_add] at hx150_0 | skip); replace p150 := eq_true p150; replace q150 := eq_true q150))
                       (try simp only [← hl4_3])
                       go_roundg k3
                       case measure => have := HK1.out; have := HK2.out; have := HK3.out; omega
                       case rel => exact ⟨(x4_3), (x7_3), (wrap64 (x11_3 + 1)), (by first | rfl | (simp; done) | (simp [*]; done)), H', ⟨by have := HK1.out; have := HK2.out; have := HK3.out; omega⟩, ⟨by (try simp only [hl4_1]); (try simp only [hl4_2]); (try simp only [hl4_3]); (with_reducible repeat (first | apply Kd.R_alloc | apply Kd.R_drewN | apply Kd.R_drew)); first | exact HO_3.out | exact Kd.R_mono HO_3.out (fun _ hk => hk.2.2)⟩, ⟨by (try simp only [hl4_1]); (try simp only [hl4_2]); (try simp only [hl4_3]); (with_reducible repeat (first | apply Kd.R_alloc | apply Kd.R_drewN | apply Kd.R_drew)); exact HO_4.out⟩, ⟨by (try simp only [hl4_1]); (try simp only [hl4_2]); (try simp only [hl4_3]); (with_reducible repeat (first | apply Kd.R_alloc | apply Kd.R_drewN | apply Kd.R_drew)); first | exact HO_7.out | exact Kd.R_mono HO_7.out (fun _ hk => hk.2.2)⟩, ⟨by repeat (first | (with_reducible first | exact HB.out | apply below_alloc | apply pw_below_drewN | apply below_drew1) | exact HB.out)⟩⟩
                     ·rw [if_neg c29] at H
                      exact absurd H (by simp)
                    ·rw [if_neg c28] at H
                     exact absurd H (by simp)
                   ·replace c26 := Bool.eq_false_iff.mpr c26
                    subst c26
                    have H1 : (spec_mlPieces.l2 k3 l0 x3_1 x4_3 ((rdOf ByteArray.empty l0 0).size : Int) x7_3 x8_2 (Int.tmod (rd x7_2 x8_2) ((rdOf ByteArray.empty l0 0).size : Int)) (wrap64 (Int.tdiv (rd x7_2 x8_2) ((rdOf ByteArray.empty l0 0).size : Int))) (wrap64 (x11_3 + 1)) (t130.length : Int) x24_1) = some r := by rw [if_neg (show ¬ (false = true) by decide)] at H; exact H
                    clear H
                    have H := H1
                    clear H1
                    have H' := Aside0.mk H
                    clear H
                    try go_wp2
                    have pi144 : (0 ≤ (x11_3 : Int)) = True := eq_true (of_decide_eq_true (by first | (with_reducible assumption) | assumption))
                    have qi144 : (x11_3 < (y141.length : Int)) = True := eq_true (of_decide_eq_true (by first | (with_reducible assumption) | assumption))
                    have pi148 : (0 ≤ (x11_3 : Int)) = True := eq_true (of_decide_eq_true (by first | (with_reducible assumption) | assumption))
                    have qi148 : (x11_3 < (y145.length : Int)) = True := eq_true (of_decide_eq_true (by first | (with_reducible assumption) | assumption))
                    have n0_ := Aside0.mk (Kd.R_drew HO_3.out)
                    have n1_ := Aside0.mk (Kd.R_drew HO_4.out)
                    have n2_ := Aside0.mk (Kd.R_drew HO_7.out)
                    have n3_ := Aside0.mk (below_drew1 HB.out)
                    clear HO_3
                    clear HO_4
                    clear HO_7
                    clear HB
                    have HO_3 := n0_
                    have HO_4 := n1_
                    have HO_7 := n2_
                    have HB := n3_
                    clear n0_ n1_ n2_ n3_
                    refine start_ (n := 14) (S := fun w' => True) (ds := []) #[false, false, false, false, false, false, false, false, false, false, false, false, false, false] (by kernel_rfl) rfl rfl trivial (fun hHeld => ?_); refine with_tabW spec_mlPieces.tab17 spec_mlPieces.bits17 (fun HT_ HW_ => ?_)
                    generalize wr.drew = w57 at HO_3 HO_4 HO_7 HB hHeld ⊢
                    refine pure_ (i := 0) (N := some 59) (v := ?_) (a' := ?_) #[true, false, false, false, false, false, false, false, false, false, false, false, false, false] rfl rfl (any_of HT_.out (by kernel_rfl)) (fun _ _ _ h => h) (Or.inl ⟨by rfl, ?_⟩) ?_ ?_
                    rotate_left
                    ·intro w'
                     go_simp
                     with_reducible rfl
                    rotate_left
                    ·simp only [Act.put, List.setIfInBounds_toArray, List.set_cons_zero, List.set_cons_succ, i64_w, i32_w]
                     rfl
                    refine pure_ (i := 2) (N := some 61) (v := ?_) (a' := ?_) #[true, false, true, false, false, false, false, false, false, false, false, false, false, false] rfl rfl (any_of HT_.out (by kernel_rfl)) (fun _ _ _ h => h) (Or.inl ⟨by rfl, ?_⟩) ?_ ?_
                    rotate_left
                    ·intro w'
                     go_simp
                     with_reducible rfl
                    rotate_left
                    ·simp only [Act.put, List.setIfInBounds_toArray, List.set_cons_zero, List.set_cons_succ, i64_w, i32_w]
                     rfl
                    refine pure_ (i := 6) (N := some 65) (v := ?_) (a' := ?_) #[true, false, true, false, false, false, true, false, false, false, false, false, false, false] rfl rfl (any_of HT_.out (by kernel_rfl)) (fun _ _ _ h => h) (Or.inl ⟨by rfl, ?_⟩) ?_ ?_
                    rotate_left
                    ·intro w'
                     go_simp
                     with_reducible rfl
                    rotate_left
                    ·simp only [Act.put, List.setIfInBounds_toArray, List.set_cons_zero, List.set_cons_succ, i64_w, i32_w]
                     rfl
                    refine pure_ (i := 8) (N := some 67) (v := ?_) (a' := ?_) #[true, false, true, false, false, false, true, false, true, false, false, false, false, false] rfl rfl (any_of HT_.out (by kernel_rfl)) (fun _ _ _ h => h) (Or.inl ⟨by rfl, ?_⟩) ?_ ?_
                    rotate_left
                    ·intro w'
                     go_simp
                     with_reducible rfl
                    rotate_left
                    ·simp only [Act.put, List.setIfInBounds_toArray, List.set_cons_zero, List.set_cons_succ, i64_w, i32_w]
                     rfl
                    refine inv_at [1, 3, 4, 5, 7, 9, 10, 11, 12, 13] (fun a0_ b a w' => ∃ (v142 : Value) (adz_v142 : Addr) (v146 : Value) (adz_v146 : Addr) (m3_ : Value) (m9_ : Value), a = putSel a0_ b [(1, 60, v142), (3, 62, m3_), (4, 63, .int .i64 (rd y141 x11_3)), (5, 64, .int .i64 (wrap64 ((Int.tmod (rd x7_2 x8_2) ((rdOf ByteArray.empty l0 0).size : Int)) + (rd y141 x11_3)))), (7, 66, v146), (9, 68, m9_), (10, 69, .int .i64 (rd y145 x11_3)), (11, 70, .int .i64 (wrap64 ((wrap64 (Int.tdiv (rd x7_2 x8_2) ((rdOf ByteArray.empty l0 0).size : Int))) + (rd y145 x11_3)))), (12, 12, .int .i64 (wrap64 ((Int.tmod (rd x7_2 x8_2) ((rdOf ByteArray.empty l0 0).size : Int)) + (rd y141 x11_3)))), (13, 13, .int .i64 (wrap64 ((wrap64 (Int.tdiv (rd x7_2 x8_2) ((rdOf ByteArray.empty l0 0).size : Int))) + (rd y145 x11_3))))] ∧ (Kd.R (Kd.int .i64) 3 w' w.heap.size (fun k_ => some k_ ≠ (u7 : Value).ownBlock) u3 x3_1) ∧ (Kd.R Kd.bool 4 w' w.heap.size (fun _ => True) (.slice (some ⟨go11, 0, none⟩) x4_3.length co5) x4_3) ∧ (Kd.R (Kd.int .i64) 3 w' w.heap.size (fun k_ => some k_ ≠ (u3 : Value).ownBlock) u7 x7_3) ∧ (Below w.heap.size w w') ∧ (b 1 = true → Kd.R (Kd.int .i64) 3 w' w.heap.size (fun k_ => some k_ ≠ (u3 : Value).ownBlock ∧ some k_ ≠ (u7 : Value).ownBlock) v142 y141) ∧ (b 1 = true → ∃ c_, (v142 : Value) = .slice (some adz_v142) y141.length c_) ∧ (b 7 = true → Kd.R (Kd.int .i64) 3 w' w.heap.size (fun k_ => some k_ ≠ (u3 : Value).ownBlock ∧ some k_ ≠ (u7 : Value).ownBlock) v146 y145) ∧ (b 7 = true → ∃ c_, (v146 : Value) = .slice (some adz_v146) y145.length c_) ∧ (b 3 = true → (m3_ : Value) = .pointer (some (adz_v142.add (x11_3).toNat))) ∧ (b 9 = true → (m9_ : Value) = .pointer (some (adz_v146.add (x11_3).toNat)))) HT_.out HW_.out (by kernel_rfl) (by kernel_rfl) ?_ ?_ ?_
                    ·exact ⟨.bool false, ⟨0, 0, none⟩, .bool false, ⟨0, 0, none⟩, .bool false, .bool false, by simp only [putSel, Bool.false_eq_true, if_false], HO_3.out, HO_4.out, HO_7.out, HB.out, fun h_ => absurd h_ (by decide), fun h_ => absurd h_ (by decide), fun h_ => absurd h_ (by decide), fun h_ => absurd h_ (by decide), fun h_ => absurd h_ (by decide), fun h_ => absurd h_ (by decide)⟩
                    ·skip
                     clear HB HO_3 HO_4 HO_7
                     refine steps_cons ?_ ?_
                     ·rintro b a w' ⟨v142, adz_v142, v146, adz_v146, m3_, m9_, ha, Q_HO_3, Q_HO_4, Q_HO_7, Q_HB, Q_HO143, Q_HA_HO143, Q_HO147, Q_HA_HO147, Q_X3_, Q_X9_⟩ hb_ hon hoff
                      refine ⟨_, rfl, fun K hK => ?_⟩
                      replace ha := Aside0.mk ha
                      have HO_3 := Aside0.mk Q_HO_3
                      have HO_4 := Aside0.mk Q_HO_4
                      have HO_7 := Aside0.mk Q_HO_7
                      have HB := Aside0.mk Q_HB
                      refine Kd.R_lit_step (Kd.int .i64) _ 3 ?hg (N := 60) ?hd (xs := ([0, 1, 0, (-1)] : List Int)) (inner := [.int .i64 0, .int .i64 1, .int .i64 0, .int .i64 (-1)]) (ok := fun _ => True) (okp := fun _ => True) ?hr ?hp (fun _ hk => hk) trivial (Below.refl _ _) (Nat.le_refl _) (by simp) ?_; (case hd => rfl); (case hg => rfl); (case hr => first | (go_simp; done) | (go_simp; rfl)); (case hp => exact (Reps.one (show Kd.M (Kd.int .i64) _ _ _ 0 [.int .i64 0] from rfl) (Reps.one (show Kd.M (Kd.int .i64) _ _ _ 1 [.int .i64 1] from rfl) (Reps.one (show Kd.M (Kd.int .i64) _ _ _ 0 [.int .i64 0] from rfl) (Reps.one (show Kd.M (Kd.int .i64) _ _ _ (-1) [.int .i64 (-1)] from rfl) (Reps.none _ _))))))
                      intro v142 w58 ho59 hb hg_ hnew_
                      clear hg_ hnew_
                      (first | rw [← Ny141.out] at ho59 | (simp only [Int.reduceToNat] at ho59; rw [← Ny141.out] at ho59))
                      have n0_ := Aside0.mk (Kd.R_elder' (by (with_reducible repeat (first | apply Kd.R_alloc | apply Kd.R_drewN | apply Kd.R_drew)); exact HO_3.out) (Kd.R_base ho59) hb)
                      have n1_ := Aside0.mk (Kd.R_below (by (with_reducible repeat (first | apply Kd.R_alloc | apply Kd.R_drewN | apply Kd.R_drew)); exact HO_4.out) hb)
                      have n2_ := Aside0.mk (Kd.R_elder' (by (with_reducible repeat (first | apply Kd.R_alloc | apply Kd.R_drewN | apply Kd.R_drew)); exact HO_7.out) (Kd.R_base ho59) hb)
                      have n3_ := Aside0.mk (Kd.R_lower (Kd.R_new' (Kd.R_new' ho59 (Kd.R_lt (by (with_reducible repeat (first | apply Kd.R_alloc | apply Kd.R_drewN | apply Kd.R_drew)); exact HO_3.out))) (Kd.R_lt (by (with_reducible repeat (first | apply Kd.R_alloc | apply Kd.R_drewN | apply Kd.R_drew)); exact HO_7.out))) (below_size (by repeat (first | (with_reducible first | exact HB.out | apply below_alloc | apply pw_below_drewN | apply below_drew1) | exact HB.out))))
                      have n4_ := Aside0.mk (below_step (by repeat (first | (with_reducible first | exact HB.out | apply below_alloc | apply pw_below_drewN | apply below_drew1) | exact HB.out)) hb)
                      have z_HO147 := fun (h0_ : b 7 = true) => (show Kd.R (Kd.int .i64) 3 w58 w.heap.size (fun k_ => some k_ ≠ (u3 : Value).ownBlock ∧ some k_ ≠ (u7 : Value).ownBlock) v146 y145 from by first | exact (Kd.R_elder' (by (with_reducible repeat (first | apply Kd.R_alloc | apply Kd.R_drewN | apply Kd.R_drew)); exact (Q_HO147 h0_)) (Kd.R_base ho59) hb) | exact Kd.R_mono (Kd.R_elder' (by (with_reducible repeat (first | apply Kd.R_alloc | apply Kd.R_drewN | apply Kd.R_drew)); exact (Q_HO147 h0_)) (Kd.R_base ho59) hb) (fun _ h_ => by first | trivial | exact h_ | exact h_.1))
                      clear HO_3
                      clear HO_4
                      clear HO_7
                      clear HB
                      have HO_3 := n0_
                      have HO_4 := n1_
                      have HO_7 := n2_
                      have HO143 := n3_
                      have HB := n4_
                      clear n0_ n1_ n2_ n3_ n4_
                      clear hb ho59
                      obtain ⟨Ao60, co60, eo60⟩ := Kd.R_slice HO143.out
                      subst eo60
                      obtain ⟨ado60, fo60, _⟩ := Kd.at_int (Kd.R_reads' HO143.out).2.2 0 (by decide) (by rw [Ny141.out]; simp)
                      cases fo60
                      refine hK.out _ _ ⟨.slice (some ado60) y141.length co60, ado60, v146, adz_v146, m3_, m9_, (by rw [ha.out]; exact putSel_upk 0 hb_ rfl rfl rfl), (by (with_reducible repeat (first | apply Kd.R_alloc | apply Kd.R_drewN | apply Kd.R_drew)); first | exact HO_3.out | exact Kd.R_mono HO_3.out (fun _ hk => hk.1) | exact Kd.R_mono HO_3.out (fun _ hk => hk.2)), (by (with_reducible repeat (first | apply Kd.R_alloc | apply Kd.R_drewN | apply Kd.R_drew)); exact HO_4.out), (by (with_reducible repeat (first | apply Kd.R_alloc | apply Kd.R_drewN | apply Kd.R_drew)); first | exact HO_7.out | exact Kd.R_mono HO_7.out (fun _ hk => hk.1) | exact Kd.R_mono HO_7.out (fun _ hk => hk.2)), (by repeat (first | (with_reducible first | exact HB.out | apply below_alloc | apply pw_below_drewN | apply below_drew1) | exact HB.out)), fun _ => (by (with_reducible repeat (first | apply Kd.R_alloc | apply Kd.R_drewN | apply Kd.R_drew)); exact Kd.R_mono HO143.out (fun _ hk => ⟨hk.1.2, hk.2⟩)), fun _ => ⟨_, rfl⟩, z_HO147, Q_HA_HO147, fun h0_ => absurd ((hoff 3 (by kernel_rfl)).symm.trans h0_) (by decide), Q_X9_⟩
                     refine steps_cons ?_ ?_
                     ·rintro b a w' ⟨v142, adz_v142, v146, adz_v146, m3_, m9_, ha, Q_HO_3, Q_HO_4, Q_HO_7, Q_HB, Q_HO143, Q_HA_HO143, Q_HO147, Q_HA_HO147, Q_X3_, Q_X9_⟩ hb_ hon hoff
                      refine ⟨_, rfl, fun K hK => ?_⟩
                      have e60 : a.tmps[60]? = some (v142) := by rw [ha]; exact putSel_on (e := (1, 60, v142)) 0 rfl rfl (hon 1 (by kernel_rfl)) rfl
                      have e61 : a.tmps[61]? = some (.int .i64 x11_3) := by rw [ha]; exact (putSel_off rfl).trans rfl
                      replace ha := Aside0.mk ha
                      have HO_3 := Aside0.mk Q_HO_3
                      have HO_4 := Aside0.mk Q_HO_4
                      have HO_7 := Aside0.mk Q_HO_7
                      have HB := Aside0.mk Q_HB
                      have HO143 := Aside0.mk (Q_HO143 (hon 1 (by kernel_rfl)))
                      have HA_HO143 := Aside0.mk (Q_HA_HO143 (hon 1 (by kernel_rfl)))
                      obtain ⟨c_, hv_⟩ := HA_HO143.out
                      rw [hv_] at e60
                      refine value_ (w1 := w') (v := .pointer (some (adz_v142.add (x11_3).toNat))) (by rfl) rfl ?_ ?_
                      ·go_simp
                       (try simp only [i64_w])
                       try rfl
                      refine hK.out _ _ ⟨v142, adz_v142, v146, adz_v146, (.pointer (some (adz_v142.add (x11_3).toNat))), m9_, (by rw [ha.out]; exact putSel_upk 1 hb_ rfl rfl rfl), Q_HO_3, Q_HO_4, Q_HO_7, Q_HB, Q_HO143, Q_HA_HO143, Q_HO147, Q_HA_HO147, fun _ => rfl, Q_X9_⟩
                     refine steps_cons ?_ ?_
                     ·rintro b a w' ⟨v142, adz_v142, v146, adz_v146, m3_, m9_, ha, Q_HO_3, Q_HO_4, Q_HO_7, Q_HB, Q_HO143, Q_HA_HO143, Q_HO147, Q_HA_HO147, Q_X3_, Q_X9_⟩ hb_ hon hoff
                      refine ⟨_, rfl, fun K hK => ?_⟩
                      have e62 : a.tmps[62]? = some (m3_) := by rw [ha]; exact putSel_on (e := (3, 62, m3_)) 1 rfl rfl (hon 3 (by kernel_rfl)) rfl
                      rw [Q_X3_ (hon 3 (by kernel_rfl))] at e62
                      replace ha := Aside0.mk ha
                      have HO_3 := Aside0.mk Q_HO_3
                      have HO_4 := Aside0.mk Q_HO_4
                      have HO_7 := Aside0.mk Q_HO_7
                      have HB := Aside0.mk Q_HB
                      have HO143 := Aside0.mk (Q_HO143 (hon 1 (by kernel_rfl)))
                      have HA_HO143 := Aside0.mk (Q_HA_HO143 (hon 1 (by kernel_rfl)))
                      obtain ⟨c_, hv_⟩ := HA_HO143.out
                      have hF_ := HO143.out
                      rw [hv_] at hF_
                      obtain ⟨ad_, ea_, hx_⟩ := Kd.at_int (Kd.R_reads' hF_).2.2 x11_3 (of_eq_true pi144) (of_eq_true qi144)
                      cases ea_
                      refine value_ (w1 := w') (v := .int .i64 (rd y141 x11_3)) (by rfl) rfl ?_ ?_
                      ·go_simp
                       (try simp only [i64_w])
                       try rfl
                      refine hK.out _ _ ⟨v142, adz_v142, v146, adz_v146, m3_, m9_, (by rw [ha.out]; exact putSel_upk 2 hb_ rfl rfl rfl), Q_HO_3, Q_HO_4, Q_HO_7, Q_HB, Q_HO143, Q_HA_HO143, Q_HO147, Q_HA_HO147, Q_X3_, Q_X9_⟩
                     refine steps_cons ?_ ?_
                     ·rintro b a w' ⟨v142, adz_v142, v146, adz_v146, m3_, m9_, ha, Q_HO_3, Q_HO_4, Q_HO_7, Q_HB, Q_HO143, Q_HA_HO143, Q_HO147, Q_HA_HO147, Q_X3_, Q_X9_⟩ hb_ hon hoff
                      refine ⟨_, rfl, fun K hK => ?_⟩
                      have e59 : a.tmps[59]? = some (.int .i64 (Int.tmod (rd x7_2 x8_2) ((rdOf ByteArray.empty l0 0).size : Int))) := by rw [ha]; exact (putSel_off rfl).trans rfl
                      have e63 : a.tmps[63]? = some (.int .i64 (rd y141 x11_3)) := by rw [ha]; exact putSel_on (e := (4, 63, .int .i64 (rd y141 x11_3))) 2 rfl rfl (hon 4 (by kernel_rfl)) rfl
                      replace ha := Aside0.mk ha
                      have HO_3 := Aside0.mk Q_HO_3
                      have HO_4 := Aside0.mk Q_HO_4
                      have HO_7 := Aside0.mk Q_HO_7
                      have HB := Aside0.mk Q_HB
                      have HO143 := Aside0.mk (Q_HO143 (hon 1 (by kernel_rfl)))
                      have HA_HO143 := Aside0.mk (Q_HA_HO143 (hon 1 (by kernel_rfl)))
                      refine value_ (w1 := w') (v := .int .i64 (wrap64 ((Int.tmod (rd x7_2 x8_2) ((rdOf ByteArray.empty l0 0).size : Int)) + (rd y141 x11_3)))) (by rfl) rfl ?_ ?_
                      ·go_simp
                       (try simp only [i64_w])
                       try rfl
                      refine hK.out _ _ ⟨v142, adz_v142, v146, adz_v146, m3_, m9_, (by rw [ha.out]; exact putSel_upk 3 hb_ rfl rfl rfl), Q_HO_3, Q_HO_4, Q_HO_7, Q_HB, Q_HO143, Q_HA_HO143, Q_HO147, Q_HA_HO147, Q_X3_, Q_X9_⟩
                     refine steps_cons ?_ ?_
                     ·rintro b a w' ⟨v142, adz_v142, v146, adz_v146, m3_, m9_, ha, Q_HO_3, Q_HO_4, Q_HO_7, Q_HB, Q_HO143, Q_HA_HO143, Q_HO147, Q_HA_HO147, Q_X3_, Q_X9_⟩ hb_ hon hoff
                      refine ⟨_, rfl, fun K hK => ?_⟩
                      replace ha := Aside0.mk ha
                      have HO_3 := Aside0.mk Q_HO_3
                      have HO_4 := Aside0.mk Q_HO_4
                      have HO_7 := Aside0.mk Q_HO_7
                      have HB := Aside0.mk Q_HB
                      refine Kd.R_lit_step (Kd.int .i64) _ 3 ?hg (N := 66) ?hd (xs := ([(-1), 0, 1, 0] : List Int)) (inner := [.int .i64 (-1), .int .i64 0, .int .i64 1, .int .i64 0]) (ok := fun _ => True) (okp := fun _ => True) ?hr ?hp (fun _ hk => hk) trivial (Below.refl _ _) (Nat.le_refl _) (by simp) ?_; (case hd => rfl); (case hg => rfl); (case hr => first | (go_simp; done) | (go_simp; rfl)); (case hp => exact (Reps.one (show Kd.M (Kd.int .i64) _ _ _ (-1) [.int .i64 (-1)] from rfl) (Reps.one (show Kd.M (Kd.int .i64) _ _ _ 0 [.int .i64 0] from rfl) (Reps.one (show Kd.M (Kd.int .i64) _ _ _ 1 [.int .i64 1] from rfl) (Reps.one (show Kd.M (Kd.int .i64) _ _ _ 0 [.int .i64 0] from rfl) (Reps.none _ _))))))
                      intro v146 w58 ho59 hb hg_ hnew_
                      clear hg_ hnew_
                      (first | rw [← Ny145.out] at ho59 | (simp only [Int.reduceToNat] at ho59; rw [← Ny145.out] at ho59))
                      have n0_ := Aside0.mk (Kd.R_elder' (by (with_reducible repeat (first | apply Kd.R_alloc | apply Kd.R_drewN | apply Kd.R_drew)); exact HO_3.out) (Kd.R_base ho59) hb)
                      have n1_ := Aside0.mk (Kd.R_below (by (with_reducible repeat (first | apply Kd.R_alloc | apply Kd.R_drewN | apply Kd.R_drew)); exact HO_4.out) hb)
                      have n2_ := Aside0.mk (Kd.R_elder' (by (with_reducible repeat (first | apply Kd.R_alloc | apply Kd.R_drewN | apply Kd.R_drew)); exact HO_7.out) (Kd.R_base ho59) hb)
                      have n3_ := Aside0.mk (Kd.R_lower (Kd.R_new' (Kd.R_new' ho59 (Kd.R_lt (by (with_reducible repeat (first | apply Kd.R_alloc | apply Kd.R_drewN | apply Kd.R_drew)); exact HO_3.out))) (Kd.R_lt (by (with_reducible repeat (first | apply Kd.R_alloc | apply Kd.R_drewN | apply Kd.R_drew)); exact HO_7.out))) (below_size (by repeat (first | (with_reducible first | exact HB.out | apply below_alloc | apply pw_below_drewN | apply below_drew1) | exact HB.out))))
                      have n4_ := Aside0.mk (below_step (by repeat (first | (with_reducible first | exact HB.out | apply below_alloc | apply pw_below_drewN | apply below_drew1) | exact HB.out)) hb)
                      have z_HO143 := fun (h0_ : b 1 = true) => (show Kd.R (Kd.int .i64) 3 w58 w.heap.size (fun k_ => some k_ ≠ (u3 : Value).ownBlock ∧ some k_ ≠ (u7 : Value).ownBlock) v142 y141 from by first | exact (Kd.R_elder' (by (with_reducible repeat (first | apply Kd.R_alloc | apply Kd.R_drewN | apply Kd.R_drew)); exact (Q_HO143 h0_)) (Kd.R_base ho59) hb) | exact Kd.R_mono (Kd.R_elder' (by (with_reducible repeat (first | apply Kd.R_alloc | apply Kd.R_drewN | apply Kd.R_drew)); exact (Q_HO143 h0_)) (Kd.R_base ho59) hb) (fun _ h_ => by first | trivial | exact h_ | exact h_.1))
                      clear HO_3
                      clear HO_4
                      clear HO_7
                      clear HB
                      have HO_3 := n0_
                      have HO_4 := n1_
                      have HO_7 := n2_
                      have HO147 := n3_
                      have HB := n4_
                      clear n0_ n1_ n2_ n3_ n4_
                      clear hb ho59
                      obtain ⟨Ao60, co60, eo60⟩ := Kd.R_slice HO147.out
                      subst eo60
                      obtain ⟨ado60, fo60, _⟩ := Kd.at_int (Kd.R_reads' HO147.out).2.2 0 (by decide) (by rw [Ny145.out]; simp)
                      cases fo60
                      refine hK.out _ _ ⟨v142, adz_v142, .slice (some ado60) y145.length co60, ado60, m3_, m9_, (by rw [ha.out]; exact putSel_upk 4 hb_ rfl rfl rfl), (by (with_reducible repeat (first | apply Kd.R_alloc | apply Kd.R_drewN | apply Kd.R_drew)); first | exact HO_3.out | exact Kd.R_mono HO_3.out (fun _ hk => hk.1) | exact Kd.R_mono HO_3.out (fun _ hk => hk.2)), (by (with_reducible repeat (first | apply Kd.R_alloc | apply Kd.R_drewN | apply Kd.R_drew)); exact HO_4.out), (by (with_reducible repeat (first | apply Kd.R_alloc | apply Kd.R_drewN | apply Kd.R_drew)); first | exact HO_7.out | exact Kd.R_mono HO_7.out (fun _ hk => hk.1) | exact Kd.R_mono HO_7.out (fun _ hk => hk.2)), (by repeat (first | (with_reducible first | exact HB.out | apply below_alloc | apply pw_below_drewN | apply below_drew1) | exact HB.out)), z_HO143, Q_HA_HO143, fun _ => (by (with_reducible repeat (first | apply Kd.R_alloc | apply Kd.R_drewN | apply Kd.R_drew)); exact Kd.R_mono HO147.out (fun _ hk => ⟨hk.1.2, hk.2⟩)), fun _ => ⟨_, rfl⟩, Q_X3_, fun h0_ => absurd ((hoff 9 (by kernel_rfl)).symm.trans h0_) (by decide)⟩
                     refine steps_cons ?_ ?_
                     ·rintro b a w' ⟨v142, adz_v142, v146, adz_v146, m3_, m9_, ha, Q_HO_3, Q_HO_4, Q_HO_7, Q_HB, Q_HO143, Q_HA_HO143, Q_HO147, Q_HA_HO147, Q_X3_, Q_X9_⟩ hb_ hon hoff
                      refine ⟨_, rfl, fun K hK => ?_⟩
                      have e66 : a.tmps[66]? = some (v146) := by rw [ha]; exact putSel_on (e := (7, 66, v146)) 4 rfl rfl (hon 7 (by kernel_rfl)) rfl
                      have e67 : a.tmps[67]? = some (.int .i64 x11_3) := by rw [ha]; exact (putSel_off rfl).trans rfl
                      replace ha := Aside0.mk ha
                      have HO_3 := Aside0.mk Q_HO_3
                      have HO_4 := Aside0.mk Q_HO_4
                      have HO_7 := Aside0.mk Q_HO_7
                      have HB := Aside0.mk Q_HB
                      have HO147 := Aside0.mk (Q_HO147 (hon 7 (by kernel_rfl)))
                      have HA_HO147 := Aside0.mk (Q_HA_HO147 (hon 7 (by kernel_rfl)))
                      obtain ⟨c_, hv_⟩ := HA_HO147.out
                      rw [hv_] at e66
                      refine value_ (w1 := w') (v := .pointer (some (adz_v146.add (x11_3).toNat))) (by rfl) rfl ?_ ?_
                      ·go_simp
                       (try simp only [i64_w])
                       try rfl
                      refine hK.out _ _ ⟨v142, adz_v142, v146, adz_v146, m3_, (.pointer (some (adz_v146.add (x11_3).toNat))), (by rw [ha.out]; exact putSel_upk 5 hb_ rfl rfl rfl), Q_HO_3, Q_HO_4, Q_HO_7, Q_HB, Q_HO143, Q_HA_HO143, Q_HO147, Q_HA_HO147, Q_X3_, fun _ => rfl⟩
                     refine steps_cons ?_ ?_
                     ·rintro b a w' ⟨v142, adz_v142, v146, adz_v146, m3_, m9_, ha, Q_HO_3, Q_HO_4, Q_HO_7, Q_HB, Q_HO143, Q_HA_HO143, Q_HO147, Q_HA_HO147, Q_X3_, Q_X9_⟩ hb_ hon hoff
                      refine ⟨_, rfl, fun K hK => ?_⟩
                      have e68 : a.tmps[68]? = some (m9_) := by rw [ha]; exact putSel_on (e := (9, 68, m9_)) 5 rfl rfl (hon 9 (by kernel_rfl)) rfl
                      rw [Q_X9_ (hon 9 (by kernel_rfl))] at e68
                      replace ha := Aside0.mk ha
                      have HO_3 := Aside0.mk Q_HO_3
                      have HO_4 := Aside0.mk Q_HO_4
                      have HO_7 := Aside0.mk Q_HO_7
                      have HB := Aside0.mk Q_HB
                      have HO147 := Aside0.mk (Q_HO147 (hon 7 (by kernel_rfl)))
                      have HA_HO147 := Aside0.mk (Q_HA_HO147 (hon 7 (by kernel_rfl)))
                      obtain ⟨c_, hv_⟩ := HA_HO147.out
                      have hF_ := HO147.out
                      rw [hv_] at hF_
                      obtain ⟨ad_, ea_, hx_⟩ := Kd.at_int (Kd.R_reads' hF_).2.2 x11_3 (of_eq_true pi148) (of_eq_true qi148)
                      cases ea_
                      refine value_ (w1 := w') (v := .int .i64 (rd y145 x11_3)) (by rfl) rfl ?_ ?_
                      ·go_simp
                       (try simp only [i64_w])
                       try rfl
                      refine hK.out _ _ ⟨v142, adz_v142, v146, adz_v146, m3_, m9_, (by rw [ha.out]; exact putSel_upk 6 hb_ rfl rfl rfl), Q_HO_3, Q_HO_4, Q_HO_7, Q_HB, Q_HO143, Q_HA_HO143, Q_HO147, Q_HA_HO147, Q_X3_, Q_X9_⟩
                     refine steps_cons ?_ ?_
                     ·rintro b a w' ⟨v142, adz_v142, v146, adz_v146, m3_, m9_, ha, Q_HO_3, Q_HO_4, Q_HO_7, Q_HB, Q_HO143, Q_HA_HO143, Q_HO147, Q_HA_HO147, Q_X3_, Q_X9_⟩ hb_ hon hoff
                      refine ⟨_, rfl, fun K hK => ?_⟩
                      have e65 : a.tmps[65]? = some (.int .i64 (wrap64 (Int.tdiv (rd x7_2 x8_2) ((rdOf ByteArray.empty l0 0).size : Int)))) := by rw [ha]; exact (putSel_off rfl).trans rfl
                      have e69 : a.tmps[69]? = some (.int .i64 (rd y145 x11_3)) := by rw [ha]; exact putSel_on (e := (10, 69, .int .i64 (rd y145 x11_3))) 6 rfl rfl (hon 10 (by kernel_rfl)) rfl
                      replace ha := Aside0.mk ha
                      have HO_3 := Aside0.mk Q_HO_3
                      have HO_4 := Aside0.mk Q_HO_4
                      have HO_7 := Aside0.mk Q_HO_7
                      have HB := Aside0.mk Q_HB
                      have HO147 := Aside0.mk (Q_HO147 (hon 7 (by kernel_rfl)))
                      have HA_HO147 := Aside0.mk (Q_HA_HO147 (hon 7 (by kernel_rfl)))
                      refine value_ (w1 := w') (v := .int .i64 (wrap64 ((wrap64 (Int.tdiv (rd x7_2 x8_2) ((rdOf ByteArray.empty l0 0).size : Int))) + (rd y145 x11_3)))) (by rfl) rfl ?_ ?_
                      ·go_simp
                       (try simp only [i64_w])
                       try rfl
                      refine hK.out _ _ ⟨v142, adz_v142, v146, adz_v146, m3_, m9_, (by rw [ha.out]; exact putSel_upk 7 hb_ rfl rfl rfl), Q_HO_3, Q_HO_4, Q_HO_7, Q_HB, Q_HO143, Q_HA_HO143, Q_HO147, Q_HA_HO147, Q_X3_, Q_X9_⟩
                     refine steps_cons ?_ ?_
                     ·rintro b a w' ⟨v142, adz_v142, v146, adz_v146, m3_, m9_, ha, Q_HO_3, Q_HO_4, Q_HO_7, Q_HB, Q_HO143, Q_HA_HO143, Q_HO147, Q_HA_HO147, Q_X3_, Q_X9_⟩ hb_ hon hoff
                      refine ⟨_, rfl, fun K hK => ?_⟩
                      have e64 : a.tmps[64]? = some (.int .i64 (wrap64 ((Int.tmod (rd x7_2 x8_2) ((rdOf ByteArray.empty l0 0).size : Int)) + (rd y141 x11_3)))) := by rw [ha]; exact putSel_on (e := (5, 64, .int .i64 (wrap64 ((Int.tmod (rd x7_2 x8_2) ((rdOf ByteArray.empty l0 0).size : Int)) + (rd y141 x11_3))))) 3 rfl rfl (hon 5 (by kernel_rfl)) rfl
                      replace ha := Aside0.mk ha
                      have HO_3 := Aside0.mk Q_HO_3
                      have HO_4 := Aside0.mk Q_HO_4
                      have HO_7 := Aside0.mk Q_HO_7
                      have HB := Aside0.mk Q_HB
                      have HO143 := Aside0.mk (Q_HO143 (hon 1 (by kernel_rfl)))
                      have HA_HO143 := Aside0.mk (Q_HA_HO143 (hon 1 (by kernel_rfl)))
                      refine value_ (w1 := w') (v := .int .i64 (wrap64 ((Int.tmod (rd x7_2 x8_2) ((rdOf ByteArray.empty l0 0).size : Int)) + (rd y141 x11_3)))) (by rfl) rfl ?_ ?_
                      ·go_simp
                       (try simp only [i64_w])
                       try rfl
                      refine hK.out _ _ ⟨v142, adz_v142, v146, adz_v146, m3_, m9_, (by rw [ha.out]; exact putSel_upk 8 hb_ rfl rfl rfl), Q_HO_3, Q_HO_4, Q_HO_7, Q_HB, Q_HO143, Q_HA_HO143, Q_HO147, Q_HA_HO147, Q_X3_, Q_X9_⟩
                     refine steps_cons ?_ ?_
                     ·rintro b a w' ⟨v142, adz_v142, v146, adz_v146, m3_, m9_, ha, Q_HO_3, Q_HO_4, Q_HO_7, Q_HB, Q_HO143, Q_HA_HO143, Q_HO147, Q_HA_HO147, Q_X3_, Q_X9_⟩ hb_ hon hoff
                      refine ⟨_, rfl, fun K hK => ?_⟩
                      have e70 : a.tmps[70]? = some (.int .i64 (wrap64 ((wrap64 (Int.tdiv (rd x7_2 x8_2) ((rdOf ByteArray.empty l0 0).size : Int))) + (rd y145 x11_3)))) := by rw [ha]; exact putSel_on (e := (11, 70, .int .i64 (wrap64 ((wrap64 (Int.tdiv (rd x7_2 x8_2) ((rdOf ByteArray.empty l0 0).size : Int))) + (rd y145 x11_3))))) 7 rfl rfl (hon 11 (by kernel_rfl)) rfl
                      replace ha := Aside0.mk ha
                      have HO_3 := Aside0.mk Q_HO_3
                      have HO_4 := Aside0.mk Q_HO_4
                      have HO_7 := Aside0.mk Q_HO_7
                      have HB := Aside0.mk Q_HB
                      have HO143 := Aside0.mk (Q_HO143 (hon 1 (by kernel_rfl)))
                      have HA_HO143 := Aside0.mk (Q_HA_HO143 (hon 1 (by kernel_rfl)))
                      have HO147 := Aside0.mk (Q_HO147 (hon 7 (by kernel_rfl)))
                      have HA_HO147 := Aside0.mk (Q_HA_HO147 (hon 7 (by kernel_rfl)))
                      refine value_ (w1 := w') (v := .int .i64 (wrap64 ((wrap64 (Int.tdiv (rd x7_2 x8_2) ((rdOf ByteArray.empty l0 0).size : Int))) + (rd y145 x11_3)))) (by rfl) rfl ?_ ?_
                      ·go_simp
                       (try simp only [i64_w])
                       try rfl
                      refine hK.out _ _ ⟨v142, adz_v142, v146, adz_v146, m3_, m9_, (by rw [ha.out]; exact putSel_upk 9 hb_ rfl rfl rfl), Q_HO_3, Q_HO_4, Q_HO_7, Q_HB, Q_HO143, Q_HA_HO143, Q_HO147, Q_HA_HO147, Q_X3_, Q_X9_⟩
                     exact steps_nil
                    rintro b a w64 hall ⟨v142, adz_v142, v146, adz_v146, m3_, m9_, ha, Q_HO_3, Q_HO_4, Q_HO_7, Q_HB, Q_HO143, Q_HA_HO143, Q_HO147, Q_HA_HO147, Q_X3_, Q_X9_⟩
                    clear HB HO_3 HO_4 HO_7
                    have hb1_ := hall 1 (by kernel_rfl)
                    have hb3_ := hall 3 (by kernel_rfl)
                    have hb4_ := hall 4 (by kernel_rfl)
                    have hb5_ := hall 5 (by kernel_rfl)
                    have hb7_ := hall 7 (by kernel_rfl)
                    have hb9_ := hall 9 (by kernel_rfl)
                    have hb10_ := hall 10 (by kernel_rfl)
                    have hb11_ := hall 11 (by kernel_rfl)
                    have hb12_ := hall 12 (by kernel_rfl)
                    have hb13_ := hall 13 (by kernel_rfl)
                    subst ha
                    obtain rfl := Q_X3_ hb3_
                    obtain rfl := Q_X9_ hb9_
                    simp only [putSel, hb1_, hb3_, hb4_, hb5_, hb7_, hb9_, hb10_, hb11_, hb12_, hb13_, if_true, Act.put, List.setIfInBounds_toArray, List.set_cons_zero, List.set_cons_succ]
                    have HO_3 := Aside0.mk Q_HO_3
                    clear Q_HO_3
                    have HO_4 := Aside0.mk Q_HO_4
                    clear Q_HO_4
                    have HO_7 := Aside0.mk Q_HO_7
                    clear Q_HO_7
                    have HB := Aside0.mk Q_HB
                    clear Q_HB
                    have HO143 := Aside0.mk (Q_HO143 hb1_)
                    clear Q_HO143
                    have HA_HO143 := Aside0.mk (Q_HA_HO143 hb1_)
                    clear Q_HA_HO143
                    have HO147 := Aside0.mk (Q_HO147 hb7_)
                    clear Q_HO147
                    have HA_HO147 := Aside0.mk (Q_HA_HO147 hb7_)
                    clear Q_HA_HO147
                    clear hall hb1_ hb3_ hb4_ hb5_ hb7_ hb9_ hb10_ hb11_ hb12_ hb13_
                    obtain ⟨co65, eo65⟩ := HA_HO143.out
                    clear HA_HO143
                    subst eo65
                    obtain ⟨co66, eo66⟩ := HA_HO147.out
                    clear HA_HO147
                    subst eo66
                    try go_wp2_with (first | ((with_reducible refine gate_callee (f := 62) rfl ?_); refine goesL_ (some 74) rfl rfl Tryd.func62 (by kernel_rfl) rfl #[.slice (some ad133) l0.length c0, .int .i64 (wrap64 ((Int.tmod (rd x7_2 x8_2) ((rdOf ByteArray.empty l0 0).size : Int)) + (rd y141 x11_3))), .int .i64 (wrap64 ((wrap64 (Int.tdiv (rd x7_2 x8_2) ((rdOf ByteArray.empty l0 0).size : Int))) + (rd y145 x11_3)))] rfl (by (try simp only [List.map_toArray, List.map_cons, List.map_nil]); first | done | rfl | (simp only [List.length_drop, List.length_take]; rfl)) ?_; (with_reducible refine (spec_mlAt.calls _ _ l0 (wrap64 ((Int.tmod (rd x7_2 x8_2) ((rdOf ByteArray.empty l0 0).size : Int)) + (rd y141 x11_3))) (wrap64 ((wrap64 (Int.tdiv (rd x7_2 x8_2) ((rdOf ByteArray.empty l0 0).size : Int))) + (rd y145 x11_3))) false _ ?side1 ?side2 A25.out).mono ?_); (case side1 => repeat (first | exact (Kd.C_below HR0.out HB.out) | (with_reducible refine Kd.C_alloc ?_ _) | (with_reducible refine Kd.C_drewN ?_ _) | (with_reducible refine Kd.C_drew ?_))); (case side2 => exact HC0.out); rintro e w' ⟨rfl, ⟨nd, rfl⟩⟩; refine ⟨_, rfl, ?_⟩))
                    (try simp only [← hl4_3])
                    go_roundg k3
                    case measure => have := HK1.out; have := HK2.out; have := HK3.out; omega
                    case rel => exact ⟨(x4_3), (x7_3), (wrap64 (x11_3 + 1)), (by first | rfl | (simp; done) | (simp [*]; done)), H', ⟨by have := HK1.out; have := HK2.out; have := HK3.out; omega⟩, ⟨by (try simp only [hl4_1]); (try simp only [hl4_2]); (try simp only [hl4_3]); (with_reducible repeat (first | apply Kd.R_alloc | apply Kd.R_drewN | apply Kd.R_drew)); first | exact HO_3.out | exact Kd.R_mono HO_3.out (fun _ hk => hk.2.2)⟩, ⟨by (try simp only [hl4_1]); (try simp only [hl4_2]); (try simp only [hl4_3]); (with_reducible repeat (first | apply Kd.R_alloc | apply Kd.R_drewN | apply Kd.R_drew)); exact HO_4.out⟩, ⟨by (try simp only [hl4_1]); (try simp only [hl4_2]); (try simp only [hl4_3]); (with_reducible repeat (first | apply Kd.R_alloc | apply Kd.R_drewN | apply Kd.R_drew)); first | exact HO_7.out | exact Kd.R_mono HO_7.out (fun _ hk => hk.2.2)⟩, ⟨by repeat (first | (with_reducible first | exact HB.out | apply below_alloc | apply pw_below_drewN | apply below_drew1) | exact HB.out)⟩⟩
                  ·rw [if_neg c24] at H
                   exact absurd H (by simp)
                 ·rw [if_neg c23] at H
                  exact absurd H (by simp)
                ·rw [if_neg c22] at H
                 exact absurd H (by simp)
               ·rw [if_neg c21] at H
                have c21b0 : decide (x11_3 < 4) = false := decide_eq_false c21
                clear c21
                have H' := Aside0.mk H
                clear H
                go_wp2
                (try simp only [← hl4_2, ← hl4_3])
                go_roundg k3
                case measure => have := HK1.out; have := HK2.out; have := HK3.out; omega
                case rel => exact ⟨(x4_3), (x7_3), (wrap64 (x8_2 + 1)), (by first | rfl | (simp; done) | (simp [*]; done)), H', ⟨by have := HK1.out; have := HK2.out; have := HK3.out; omega⟩, ⟨by (try simp only [hl4_1]); (try simp only [hl4_2]); (try simp only [hl4_3]); (with_reducible repeat (first | apply Kd.R_alloc | apply Kd.R_drewN | apply Kd.R_drew)); exact HO_3.out⟩, ⟨by (try simp only [hl4_1]); (try simp only [hl4_2]); (try simp only [hl4_3]); (with_reducible repeat (first | apply Kd.R_alloc | apply Kd.R_drewN | apply Kd.R_drew)); exact HO_4.out⟩, ⟨by (try simp only [hl4_1]); (try simp only [hl4_2]); (try simp only [hl4_3]); (with_reducible repeat (first | apply Kd.R_alloc | apply Kd.R_drewN | apply Kd.R_drew)); exact HO_7.out⟩, ⟨by repeat (first | (with_reducible first | exact HB.out | apply below_alloc | apply pw_below_drewN | apply below_drew1) | exact HB.out)⟩⟩
           ·rw [if_neg c17] at H
            exact absurd H (by simp)
          ·rw [if_neg c16] at H
           have c16b0 : decide (x8_2 < (x7_2.length : Int)) = false := decide_eq_false c16
           clear c16
           have H' := Aside0.mk H
           clear H
           obtain ⟨Ao67, co67, eo67⟩ := Kd.R_slice HO_7.out
           subst eo67
           obtain ⟨Ao68, co68, eo68⟩ := Kd.R_slice HO_3.out
           subst eo68
           go_wp2
           go_loopg [14] k2 (fun kq v14 w' => ∃ (x14_3 : Int), v14 = .int .i64 x14_3 ∧ Aside0 (spec_mlPieces.l3 kq l0 x3_1 x4_2 ((rdOf ByteArray.empty l0 0).size : Int) x7_2 x14_3 (t130.length : Int) x24_1 = some r) ∧ Aside0 (kq ≤ k2) ∧ Aside0 (Kd.R (Kd.int .i64) 3 w' w.heap.size (fun k_ => some k_ ≠ ((.slice Ao67 x7_2.length co67) : Value).ownBlock) (.slice Ao68 x3_1.length co68) x3_1) ∧ Aside0 (Kd.R Kd.bool 4 w' w.heap.size (fun _ => True) (.slice (some ⟨go11, 0, none⟩) x4_2.length co5) x4_2) ∧ Aside0 (Kd.R (Kd.int .i64) 3 w' w.heap.size (fun k_ => some k_ ≠ ((.slice Ao68 x3_1.length co68) : Value).ownBlock) (.slice Ao67 x7_2.length co67) x7_2) ∧ Aside0 (Below w.heap.size w w'))
           case atStart => exact ⟨((x3_1.length : Int)), (by first | rfl | (simp; done) | (simp [*]; done)), H', ⟨Nat.le_refl _⟩, ⟨by (try simp only [hl4_1]); (try simp only [hl4_2]); (with_reducible repeat (first | apply Kd.R_alloc | apply Kd.R_drewN | apply Kd.R_drew)); exact HO_3.out⟩, ⟨by (try simp only [hl4_1]); (try simp only [hl4_2]); (with_reducible repeat (first | apply Kd.R_alloc | apply Kd.R_drewN | apply Kd.R_drew)); exact HO_4.out⟩, ⟨by (try simp only [hl4_1]); (try simp only [hl4_2]); (with_reducible repeat (first | apply Kd.R_alloc | apply Kd.R_drewN | apply Kd.R_drew)); exact HO_7.out⟩, ⟨by repeat (first | (with_reducible first | exact HB.out | apply below_alloc | apply pw_below_drewN | apply below_drew1) | exact HB.out)⟩⟩
           case round =>
            clear H'
            try clear c1
            try clear p1
            try clear q1
            try clear hx1
            try clear qi1
            try clear c2
            try clear p2
            try clear q3
            try clear c6
            try clear p6
            try clear q9
            try clear qi14
            try clear p15
            try clear q15
            try clear hx15
            try clear c16
            try clear c16b0
            try clear c17
            try clear c21
            try clear c21b0
            try clear c22
            try clear c23
            try clear c24
            try clear c26
            try clear c28
            try clear c29
            try clear q30
            try clear c62
            try clear p64
            try clear hx150_0
            try clear p150
            try clear q150
            obtain ⟨x14_3, rfl, HA, HK3, HO_3, HO_4, HO_7, HB⟩ := hrel
            cases gk with
            | zero => exact absurd HA.out (by simp [spec_mlPieces.l3])
            | succ k3 =>
             have H := HA.out
             clear HA
             simp only [spec_mlPieces.l3] at H
             by_cases c69 : x14_3 > 0
             ·rw [if_pos c69] at H
              have c69b0 : decide (0 < x14_3) = true := decide_eq_true c69
              clear c69
              obtain ⟨ji70, hji70⟩ : ∃ j_ : Int, (wrap64 (x14_3 - 1)) = j_ := ⟨_, rfl⟩
              replace H : (if 0 ≤ (ji70) then (if (ji70) < (x3_1.length : Int) then (if (rd x3_1 (ji70)) < (x7_2.length : Int) then (spec_mlPieces.l3 k3 l0 x3_1 x4_2 ((rdOf ByteArray.empty l0 0).size : Int) x7_2 ji70 (t130.length : Int) x24_1) else (if 0 ≤ x14_3 then (if x14_3 ≤ (x3_1.length : Int) then ((spec_l1Own.f (x3_1.take (x14_3 : Int).toNat)).bind fun t160 => (if t160.length < 17592186044416 then ((some (t160 ++ [(x7_2.length : Int)] : List Int)).bind fun y163 => ((some (x3_1.drop (x14_3 : Int).toNat : List Int)).bind fun y166 => (if y163.length + y166.length < 17592186044416 then (spec_mlPieces.l0 k3 l0 (y163 ++ y166) x4_2 ((rdOf ByteArray.empty l0 0).size : Int) (t130.length : Int) (wrap64 (x24_1 + 1))) else (none)))) else (none))) else (none)) else (none))) else (none)) else (none)) = some r := by first | (rw [hji70] at H; exact H) | (simp only [hji70] at H ⊢; exact H)
              have hji70w : (IntKind.i64.wrap (x14_3 - 1)) = ji70 := (i64_w _).trans hji70
              by_cases c71 : 0 ≤ (ji70)
              ·rw [if_pos c71] at H
               have c71b0 : decide (0 ≤ (ji70)) = true := decide_eq_true c71
               clear c71
               by_cases c72 : (ji70) < (x3_1.length : Int)
               ·rw [if_pos c72] at H
                have c72b0 : decide ((ji70) < (x3_1.length : Int)) = true := decide_eq_true c72
                clear c72
                by_cases c73 : (rd x3_1 (ji70)) < (x7_2.length : Int)
                ·rw [if_pos c73] at H
                 have c73b0 : decide ((rd x3_1 (ji70)) < (x7_2.length : Int)) = true := decide_eq_true c73
                 clear c73
                 have H' := Aside0.mk H
                 clear H
                 have p155 : 0 ≤ ((ji70) : Int) := of_decide_eq_true (by first | (with_reducible assumption) | assumption)
                 have q155 : (ji70) < (x3_1.length : Int) := of_decide_eq_true (by first | (with_reducible assumption) | assumption)
                 obtain ⟨ad155, e155, hx155_0⟩ := Kd.at_int (Kd.R_reads' HO_3.out).2.2 (ji70) p155 q155
                 cases e155
                 replace p155 := eq_true p155
                 replace q155 := eq_true q155
                 go_wp2
                 go_roundg k3
                 case measure => have := HK1.out; have := HK2.out; have := HK3.out; omega
                 case rel => exact ⟨(ji70), (by first | rfl | (simp; done) | (simp only [← hji70] <;> (first | rfl | simp)) | (simp [*]; done)), H', ⟨by have := HK1.out; have := HK2.out; have := HK3.out; omega⟩, ⟨by (try simp only [hl4_1]); (try simp only [hl4_2]); (with_reducible repeat (first | apply Kd.R_alloc | apply Kd.R_drewN | apply Kd.R_drew)); exact HO_3.out⟩, ⟨by (try simp only [hl4_1]); (try simp only [hl4_2]); (with_reducible repeat (first | apply Kd.R_alloc | apply Kd.R_drewN | apply Kd.R_drew)); exact HO_4.out⟩, ⟨by (try simp only [hl4_1]); (try simp only [hl4_2]); (with_reducible repeat (first | apply Kd.R_alloc | apply Kd.R_drewN | apply Kd.R_drew)); exact HO_7.out⟩, ⟨by repeat (first | (with_reducible first | exact HB.out | apply below_alloc | apply pw_below_drewN | apply below_drew1) | exact HB.out)⟩⟩
                ·rw [if_neg c73] at H
                 have c73b0 : decide ((rd x3_1 (ji70)) < (x7_2.length : Int)) = false := decide_eq_false c73
                 clear c73
                 by_cases c74 : 0 ≤ x14_3
                 ·rw [if_pos c74] at H
                  have c74b0 := eq_true c74
                  have c74b1 : decide (0 ≤ x14_3) = true := decide_eq_true c74
                  clear c74
                  by_cases c75 : x14_3 ≤ (x3_1.length : Int)
                  ·rw [if_pos c75] at H
                   have c75b0 := eq_true c75
                   have c75b1 : decide (x14_3 ≤ (x3_1.length : Int)) = true := decide_eq_true c75
                   clear c75
                   obtain ⟨y156, hy156⟩ : ∃ y_ : List Int, y_ = (x3_1.take (x14_3 : Int).toNat) := ⟨_, rfl⟩
                   replace H : ((spec_l1Own.f y156).bind fun t160 => (if t160.length < 17592186044416 then ((some (t160 ++ [(x7_2.length : Int)] : List Int)).bind fun y163 => ((some (x3_1.drop (x14_3 : Int).toNat : List Int)).bind fun y166 => (if y163.length + y166.length < 17592186044416 then (spec_mlPieces.l0 k3 l0 (y163 ++ y166) x4_2 ((rdOf ByteArray.empty l0 0).size : Int) (t130.length : Int) (wrap64 (x24_1 + 1))) else (none)))) else (none))) = some r := by first | (rw [hy156]; with_reducible exact H) | (have H2_ := (Option.bind_some _ _).symm.trans H; rw [hy156]; with_reducible exact H2_) | (have H2_ := (Option.bind_some _ _).symm.trans H; with_reducible exact H2_) | with_reducible exact H | (rw [hy156]; exact H) | exact H
                   have Ny156 := Aside0.mk hy156
                   clear hy156
                   replace H := Option.bind_eq_some_iff.mp H
                   obtain ⟨t160, A760, H⟩ := H
                   replace H : (if t160.length < 17592186044416 then ((some (t160 ++ [(x7_2.length : Int)] : List Int)).bind fun y163 => ((some (x3_1.drop (x14_3 : Int).toNat : List Int)).bind fun y166 => (if y163.length + y166.length < 17592186044416 then (spec_mlPieces.l0 k3 l0 (y163 ++ y166) x4_2 ((rdOf ByteArray.empty l0 0).size : Int) (t130.length : Int) (wrap64 (x24_1 + 1))) else (none)))) else (none)) = some r := H
                   have A76 := Aside0.mk A760
                   clear A760
                   by_cases c77 : t160.length < 17592186044416
                   ·rw [if_pos c77] at H
                    have LMc77 := Aside0.mk c77
                    clear c77
                    obtain ⟨y163, hy163⟩ : ∃ y_ : List Int, y_ = (t160 ++ [(x7_2.length : Int)]) := ⟨_, rfl⟩
                    replace H : ((some (x3_1.drop (x14_3 : Int).toNat : List Int)).bind fun y166 => (if y163.length + y166.length < 17592186044416 then (spec_mlPieces.l0 k3 l0 (y163 ++ y166) x4_2 ((rdOf ByteArray.empty l0 0).size : Int) (t130.length : Int) (wrap64 (x24_1 + 1))) else (none))) = some r := by first | (rw [hy163]; with_reducible exact H) | (have H2_ := (Option.bind_some _ _).symm.trans H; rw [hy163]; with_reducible exact H2_) | (have H2_ := (Option.bind_some _ _).symm.trans H; with_reducible exact H2_) | with_reducible exact H | (rw [hy163]; exact H) | exact H
                    have Ny163 := Aside0.mk hy163
                    clear hy163
                    have c78b0 := eq_true (of_decide_eq_true (by first | (with_reducible assumption) | assumption) : 0 ≤ x14_3)
                    have c79b0 := eq_true (of_decide_eq_true (by first | (with_reducible assumption) | assumption) : x14_3 ≤ (x3_1.length : Int))
                    obtain ⟨y166, hy166⟩ : ∃ y_ : List Int, y_ = (x3_1.drop (x14_3 : Int).toNat) := ⟨_, rfl⟩
                    replace H : (if y163.length + y166.length < 17592186044416 then (spec_mlPieces.l0 k3 l0 (y163 ++ y166) x4_2 ((rdOf ByteArray.empty l0 0).size : Int) (t130.length : Int) (wrap64 (x24_1 + 1))) else (none)) = some r := by first | (rw [hy166]; with_reducible exact H) | (have H2_ := (Option.bind_some _ _).symm.trans H; rw [hy166]; with_reducible exact H2_) | (have H2_ := (Option.bind_some _ _).symm.trans H; with_reducible exact H2_) | with_reducible exact H | (rw [hy166]; exact H) | exact H
                    have Ny166 := Aside0.mk hy166
                    clear hy166
                    by_cases c80 : y163.length + y166.length < 17592186044416
                    ·rw [if_pos c80] at H
                     have LMc80 := Aside0.mk c80
                     clear c80
                     obtain ⟨y170, hy170⟩ : ∃ y_ : List Int, y_ = (y163 ++ y166) := ⟨_, rfl⟩
                     replace H : (spec_mlPieces.l0 k3 l0 y170 x4_2 ((rdOf ByteArray.empty l0 0).size : Int) (t130.length : Int) (wrap64 (x24_1 + 1))) = some r := by first | (rw [hy170]; with_reducible exact H) | (have H2_ := (Option.bind_some _ _).symm.trans H; rw [hy170]; with_reducible exact H2_) | (have H2_ := (Option.bind_some _ _).symm.trans H; with_reducible exact H2_) | with_reducible exact H | (rw [hy170]; exact H) | exact H
                     have Ny170 := Aside0.mk hy170
                     clear hy170
                     have H' := Aside0.mk H
                     clear H
                     have p155 : 0 ≤ ((ji70) : Int) := of_decide_eq_true (by first | (with_reducible assumption) | assumption)
                     have q155 : (ji70) < (x3_1.length : Int) := of_decide_eq_true (by first | (with_reducible assumption) | assumption)
                     obtain ⟨ad155, e155, hx155_0⟩ := Kd.at_int (Kd.R_reads' HO_3.out).2.2 (ji70) p155 q155
                     cases e155
                     replace p155 := eq_true p155
                     replace q155 := eq_true q155
                     have q81 : (x14_3 : Int) ≤ ((x3_1.length : Int) : Int) := of_decide_eq_true (by first | (with_reducible assumption) | assumption)
                     obtain ⟨i081, hi081, _, hsz81, _⟩ := info_parts info3
                     have hroom81 : x3_1.length ≤ co68 := (Kd.R_reads' HO_3.out).2.1
                     have hC81 : Kd.C (Kd.int .i64) _ (some ad155) x3_1.length x3_1 := (Kd.R_reads' HO_3.out).2.2
                     have hcut81 := cut_to (P := Tryd.prog) 35 3 .i64 Tryd.underlying35 hi081 (some ad155) x3_1.length co68 x14_3 (of_decide_eq_true (by first | (with_reducible assumption) | assumption)) q81 hroom81
                     have hr81 := Kd.C_take (m := (x14_3 : Int).toNat) hC81 (by omega)
                     have hy81 : y156.length = (x14_3 : Int).toNat := (by rw [Ny156.out, List.length_take]; omega)
                     rw [← Ny156.out] at hr81
                     rw [← hy81] at hcut81
                     have HR159 := Aside0.mk hr81
                     have HC159 := Aside0.mk (show y156.length ≤ co68 from by omega)
                     clear hr81 hC81 hroom81 hi081 hsz81
                     have KY81 := Aside0.mk hy81
                     clear hy81
                     have KL81 := Aside0.mk (show (x14_3 : Int).toNat ≤ x3_1.length from by omega)
                     replace q81 := eq_true q81
                     go_wp2_with (first | ((with_reducible refine gate_callee (f := 63) rfl ?_); refine goesL_ (some 119) rfl rfl Tryd.func63 (by kernel_rfl) rfl #[.slice (some ad155) y156.length co68] rfl (by (try simp only [List.map_toArray, List.map_cons, List.map_nil]); first | done | rfl | (simp only [List.length_drop, List.length_take]; rfl)) ?_; (with_reducible refine (spec_l1Own.calls _ _ y156 t160 _ ?side1 ?side2 A76.out).mono ?_); (case side1 => repeat (first | exact (by repeat (first | (with_reducible exact HR159.out) | (with_reducible refine Kd.C_alloc ?_ _) | (with_reducible refine Kd.C_drewN ?_ _) | (with_reducible refine Kd.C_drew ?_) | exact HR159.out)) | (with_reducible refine Kd.C_alloc ?_ _) | (with_reducible refine Kd.C_drewN ?_ _) | (with_reducible refine Kd.C_drew ?_))); (case side2 => exact HC159.out); rintro e w82 ⟨v161, rfl, ho0, hb⟩; refine ⟨_, rfl, ?_⟩; have n0_ := Aside0.mk (Kd.R_elder' (by (with_reducible repeat (first | apply Kd.R_alloc | apply Kd.R_drewN | apply Kd.R_drew)); exact HO_3.out) (Kd.R_base ho0) hb); have n1_ := Aside0.mk (Kd.R_below (by (with_reducible repeat (first | apply Kd.R_alloc | apply Kd.R_drewN | apply Kd.R_drew)); exact HO_4.out) hb); have n2_ := Aside0.mk (Kd.R_elder' (by (with_reducible repeat (first | apply Kd.R_alloc | apply Kd.R_drewN | apply Kd.R_drew)); exact HO_7.out) (Kd.R_base ho0) hb); have n3_ := Aside0.mk (Kd.R_lower (Kd.R_new' (Kd.R_new' ho0 (Kd.R_lt (by (with_reducible repeat (first | apply Kd.R_alloc | apply Kd.R_drewN | apply Kd.R_drew)); exact HO_3.out))) (Kd.R_lt (by (with_reducible repeat (first | apply Kd.R_alloc | apply Kd.R_drewN | apply Kd.R_drew)); exact HO_7.out))) (below_size (by repeat (first | (with_reducible first | exact HB.out | apply below_alloc | apply pw_below_drewN | apply below_drew1) | exact HB.out)))); have n4_ := Aside0.mk (Kd.C_below (by repeat (first | (with_reducible exact HR159.out) | (with_reducible refine Kd.C_alloc ?_ _) | (with_reducible refine Kd.C_drewN ?_ _) | (with_reducible refine Kd.C_drew ?_) | exact HR159.out)) hb); have n5_ := Aside0.mk (below_step (by repeat (first | (with_reducible first | exact HB.out | apply below_alloc | apply pw_below_drewN | apply below_drew1) | exact HB.out)) hb); clear HO_3; clear HO_4; clear HO_7; clear HR159; clear HB; have HO_3 := n0_; have HO_4 := n1_; have HO_7 := n2_; have HO162 := n3_; have HR159 := n4_; have HB := n5_; clear n0_ n1_ n2_ n3_ n4_ n5_; (try clear hb); (try clear hb2); (try clear hk); (try clear hi); (try clear ho0)) | ((with_reducible refine gate_builtin (b := .append) (xs := #[.tmp 119, .tmp 122]) rfl ?_); (try (refine gate_guard (by rfl) ?_; dsimp only)); at_builtin; refine Kd.R_append (Kd.int .i64) (w0 := w) w.heap.size rfl (.tmp 119) (.tmp 122) 35 3 (.int .i64 0) 8 rfl Tryd.underlying35 info3 rfl (by decide) (by omega) v161 t160 (x7_2.length : Int) [.int .i64 (x7_2.length : Int)] (fun k_ => some k_ ≠ (.slice (some ad155) x3_1.length co68 : Value).ownBlock ∧ some k_ ≠ (.slice Ao67 x7_2.length co67 : Value).ownBlock) (fun _ => False) rfl rfl ?aP (fun _ hk => hk.elim) ?aF ?aO ?aB ?aS ?aL ?_; (case aP => exact rfl); (case aB => exact (by repeat (first | (with_reducible first | exact HB.out | apply below_alloc | apply pw_below_drewN | apply below_drew1) | exact HB.out))); (case aF => exact (fun k_ hk => ⟨Kd.fresh' (Kd.R_lt (by (with_reducible repeat (first | apply Kd.R_alloc | apply Kd.R_drewN | apply Kd.R_drew)); exact HO_3.out)) k_ hk, Kd.fresh' (Kd.R_lt (by (with_reducible repeat (first | apply Kd.R_alloc | apply Kd.R_drewN | apply Kd.R_drew)); exact HO_7.out)) k_ hk⟩)); (case aO => exact (by (with_reducible repeat (first | apply Kd.R_alloc | apply Kd.R_drewN | apply Kd.R_drew)); exact Kd.R_mono HO162.out (fun _ hk => ⟨hk.1.2, hk.2⟩))); (case aS => exact (below_size (by repeat (first | (with_reducible first | exact HB.out | apply below_alloc | apply pw_below_drewN | apply below_drew1) | exact HB.out)))); (case aL => have := LMc77.out; omega); intro v164 w83 ho hb hg hat; rw [← Ny163.out] at ho; have n0_ := Aside0.mk (Kd.R_after (ok := (fun k_ => some k_ ≠ (.slice Ao67 x7_2.length co67 : Value).ownBlock)) (by (with_reducible repeat (first | apply Kd.R_alloc | apply Kd.R_drewN | apply Kd.R_drew)); exact HO_3.out) hg hat); have n1_ := Aside0.mk (Kd.R_over' (by (with_reducible repeat (first | apply Kd.R_alloc | apply Kd.R_drewN | apply Kd.R_drew)); exact HO_4.out) (Kd.R_typed (by (with_reducible repeat (first | apply Kd.R_alloc | apply Kd.R_drewN | apply Kd.R_drew)); exact HO162.out)) (by decide) hg); have n2_ := Aside0.mk (Kd.R_after (ok := (fun k_ => some k_ ≠ (.slice (some ad155) x3_1.length co68 : Value).ownBlock)) (by (with_reducible repeat (first | apply Kd.R_alloc | apply Kd.R_drewN | apply Kd.R_drew)); exact HO_7.out) hg hat); have n3_ := Aside0.mk (hb); have n4_ := Aside0.mk ((show Kd.C (Kd.int .i64) w83 (some ad155) y156.length y156 from by rw [Ny156.out]; exact Kd.C_take (m := (x14_3 : Int).toNat) ((Kd.R_reads' (Kd.R_after (ok := (fun k_ => some k_ ≠ (.slice Ao67 x7_2.length co67 : Value).ownBlock)) (by (with_reducible repeat (first | apply Kd.R_alloc | apply Kd.R_drewN | apply Kd.R_drew)); exact HO_3.out) hg hat)).2.2) KL81.out)); have n5_ := Aside0.mk (ho); clear HO_3; clear HO_4; clear HO_7; clear HB; clear HR159; clear HO162; have HO_3 := n0_; have HO_4 := n1_; have HO_7 := n2_; have HB := n3_; have HR159 := n4_; have HO165 := n5_; clear n0_ n1_ n2_ n3_ n4_ n5_; clear ho hb hg hat; have q84 : (x14_3 : Int) ≤ ((x3_1.length : Int) : Int) := of_decide_eq_true (by first | (with_reducible assumption) | assumption); obtain ⟨i084, hi084, _, hsz84, _⟩ := info_parts info3; have hroom84 : x3_1.length ≤ co68 := (Kd.R_reads' HO_3.out).2.1; have hC84 : Kd.C (Kd.int .i64) _ (some ad155) x3_1.length x3_1 := (Kd.R_reads' HO_3.out).2.2; have q084 : (0 : Int) ≤ (x14_3 : Int) := of_decide_eq_true (by first | (with_reducible assumption) | assumption); have hcut84 := cut_from (P := Tryd.prog) 35 3 .i64 Tryd.underlying35 hi084 1 hsz84 (some ad155) x3_1.length co68 x14_3 q084 q84; have hr84 := Kd.C_drop (m := (x14_3 : Int).toNat) (c := co68) hC84 (by omega) hroom84; obtain ⟨A84, hA84⟩ : ∃ A1, A1 = (if co68 = (x14_3 : Int).toNat then (some ad155) else ((some ad155) : Option Addr).map (·.add ((x14_3 : Int).toNat * 1))) := ⟨_, rfl⟩; obtain ⟨c84, hc84⟩ : ∃ c1, c1 = co68 - (x14_3 : Int).toNat := ⟨_, rfl⟩; have hy84 : y166.length = x3_1.length - (x14_3 : Int).toNat := (by rw [Ny166.out, List.length_drop] <;> omega); rw [show (x3_1).drop (x14_3 : Int).toNat = y166 from Ny166.out.symm] at hr84; replace hr84 : Kd.C (Kd.int .i64) _ A84 y166.length y166 := (by rw [hA84]; exact hr84); rw [← hy84, ← hA84, ← hc84] at hcut84; have HR169 := Aside0.mk hr84; have HC169 := Aside0.mk (show y166.length ≤ c84 from by rw [hy84, hc84]; exact Nat.sub_le_sub_right hroom84 _); clear hr84 hC84 hroom84 hi084 hsz84 hc84; have KY84 := Aside0.mk hy84; have KA84 := Aside0.mk hA84; clear hy84 hA84; have KL84 := Aside0.mk (show (x14_3 : Int).toNat ≤ x3_1.length from by omega); replace q84 := eq_true q84) | ((with_reducible refine gate_builtin (b := .append) (xs := #[.tmp 124, .tmp 127]) rfl ?_); (try (refine gate_guard (by rfl) ?_; dsimp only)); at_builtin; refine Kd.R_append_rows (Kd.int .i64) (w0 := w) w.heap.size rfl (.tmp 124) (.tmp 127) 35 3 (.int .i64 0) 8 rfl Tryd.underlying35 info3 rfl (by decide) (by omega) v164 y163 y166 _ _ _ (fun k_ => some k_ ≠ (.slice (some ad155) x3_1.length co68 : Value).ownBlock ∧ some k_ ≠ (.slice Ao67 x7_2.length co67 : Value).ownBlock) (fun _ => False) rfl rfl ?aO ?aR (fun _ _ h => h) (fun _ h => h.elim) ?aF ?aB ?aS ?aL ?_; (case aR => repeat (first | exact (by repeat (first | (with_reducible exact HR169.out) | (with_reducible refine Kd.C_alloc ?_ _) | (with_reducible refine Kd.C_drewN ?_ _) | (with_reducible refine Kd.C_drew ?_) | exact HR169.out)) | (with_reducible refine Kd.C_alloc ?_ _) | (with_reducible refine Kd.C_drewN ?_ _) | (with_reducible refine Kd.C_drew ?_))); (case aB => exact (by repeat (first | (with_reducible first | exact HB.out | apply below_alloc | apply pw_below_drewN | apply below_drew1) | exact HB.out))); (case aF => exact (fun k_ hk => ⟨Kd.fresh' (Kd.R_lt (by (with_reducible repeat (first | apply Kd.R_alloc | apply Kd.R_drewN | apply Kd.R_drew)); exact HO_3.out)) k_ hk, Kd.fresh' (Kd.R_lt (by (with_reducible repeat (first | apply Kd.R_alloc | apply Kd.R_drewN | apply Kd.R_drew)); exact HO_7.out)) k_ hk⟩)); (case aO => exact (by (with_reducible repeat (first | apply Kd.R_alloc | apply Kd.R_drewN | apply Kd.R_drew)); exact HO165.out)); (case aS => exact (below_size (by repeat (first | (with_reducible first | exact HB.out | apply below_alloc | apply pw_below_drewN | apply below_drew1) | exact HB.out)))); (case aL => have := LMc80.out; omega); intro v171 w85 ho hb hg hat; rw [← Ny170.out] at ho; have n0_ := Aside0.mk (Kd.R_after (ok := (fun k_ => some k_ ≠ (.slice Ao67 x7_2.length co67 : Value).ownBlock)) (by (with_reducible repeat (first | apply Kd.R_alloc | apply Kd.R_drewN | apply Kd.R_drew)); exact HO_3.out) hg hat); have n1_ := Aside0.mk (Kd.R_over' (by (with_reducible repeat (first | apply Kd.R_alloc | apply Kd.R_drewN | apply Kd.R_drew)); exact HO_4.out) (Kd.R_typed (by (with_reducible repeat (first | apply Kd.R_alloc | apply Kd.R_drewN | apply Kd.R_drew)); exact HO165.out)) (by decide) hg); have n2_ := Aside0.mk (Kd.R_after (ok := (fun k_ => some k_ ≠ (.slice (some ad155) x3_1.length co68 : Value).ownBlock)) (by (with_reducible repeat (first | apply Kd.R_alloc | apply Kd.R_drewN | apply Kd.R_drew)); exact HO_7.out) hg hat); have n3_ := Aside0.mk (hb); have n4_ := Aside0.mk ((show Kd.C (Kd.int .i64) w85 (some ad155) y156.length y156 from by rw [Ny156.out]; exact Kd.C_take (m := (x14_3 : Int).toNat) ((Kd.R_reads' (Kd.R_after (ok := (fun k_ => some k_ ≠ (.slice Ao67 x7_2.length co67 : Value).ownBlock)) (by (with_reducible repeat (first | apply Kd.R_alloc | apply Kd.R_drewN | apply Kd.R_drew)); exact HO_3.out) hg hat)).2.2) KL81.out)); have n5_ := Aside0.mk ((show Kd.C (Kd.int .i64) w85 A84 y166.length y166 from by rw [Ny166.out, KA84.out]; exact Kd.C_drop (m := (x14_3 : Int).toNat) (c := co68) ((Kd.R_reads' (Kd.R_after (ok := (fun k_ => some k_ ≠ (.slice Ao67 x7_2.length co67 : Value).ownBlock)) (by (with_reducible repeat (first | apply Kd.R_alloc | apply Kd.R_drewN | apply Kd.R_drew)); exact HO_3.out) hg hat)).2.2) KL84.out ((Kd.R_reads' (Kd.R_after (ok := (fun k_ => some k_ ≠ (.slice Ao67 x7_2.length co67 : Value).ownBlock)) (by (with_reducible repeat (first | apply Kd.R_alloc | apply Kd.R_drewN | apply Kd.R_drew)); exact HO_3.out) hg hat)).2.1))); have n6_ := Aside0.mk (ho); clear HO_3; clear HO_4; clear HO_7; clear HB; clear HR159; clear HR169; clear HO165; have HO_3 := n0_; have HO_4 := n1_; have HO_7 := n2_; have HB := n3_; have HR159 := n4_; have HR169 := n5_; have HO172 := n6_; clear n0_ n1_ n2_ n3_ n4_ n5_ n6_; clear ho hb hg hat))
                     (try simp only [← hl4_1, ← hl4_2])
                     go_roundg k3
                     case measure => have := HK1.out; have := HK2.out; have := HK3.out; omega
                     case rel => exact ⟨(y170), (x4_2), (wrap64 (x24_1 + 1)), (by first | rfl | (simp; done) | (simp [*]; done)), H', ⟨by have := HK1.out; have := HK2.out; have := HK3.out; omega⟩, ⟨by (try simp only [hl4_1]); (try simp only [hl4_2]); (with_reducible repeat (first | apply Kd.R_alloc | apply Kd.R_drewN | apply Kd.R_drew)); exact Kd.R_mono HO172.out (fun _ hk => trivial)⟩, ⟨by (try simp only [hl4_1]); (try simp only [hl4_2]); (with_reducible repeat (first | apply Kd.R_alloc | apply Kd.R_drewN | apply Kd.R_drew)); exact HO_4.out⟩, ⟨by repeat (first | (with_reducible first | exact HB.out | apply below_alloc | apply pw_below_drewN | apply below_drew1) | exact HB.out)⟩⟩
                    ·rw [if_neg c80] at H
                     exact absurd H (by simp)
                   ·rw [if_neg c77] at H
                    exact absurd H (by simp)
                  ·rw [if_neg c75] at H
                   exact absurd H (by simp)
                 ·rw [if_neg c74] at H
                  exact absurd H (by simp)
               ·rw [if_neg c72] at H
                exact absurd H (by simp)
              ·rw [if_neg c71] at H
               exact absurd H (by simp)
             ·rw [if_neg c69] at H
              have c69b0 : decide (0 < x14_3) = false := decide_eq_false c69
              clear c69
              by_cases c86 : 0 ≤ x14_3
              ·rw [if_pos c86] at H
               have c86b0 := eq_true c86
               have c86b1 : decide (0 ≤ x14_3) = true := decide_eq_true c86
               clear c86
               by_cases c87 : x14_3 ≤ (x3_1.length : Int)
               ·rw [if_pos c87] at H
                have c87b0 := eq_true c87
                have c87b1 : decide (x14_3 ≤ (x3_1.length : Int)) = true := decide_eq_true c87
                clear c87
                obtain ⟨y173, hy173⟩ : ∃ y_ : List Int, y_ = (x3_1.take (x14_3 : Int).toNat) := ⟨_, rfl⟩
                replace H : ((spec_l1Own.f y173).bind fun t177 => (if t177.length < 17592186044416 then ((some (t177 ++ [(x7_2.length : Int)] : List Int)).bind fun y180 => ((some (x3_1.drop (x14_3 : Int).toNat : List Int)).bind fun y183 => (if y180.length + y183.length < 17592186044416 then (spec_mlPieces.l0 k3 l0 (y180 ++ y183) x4_2 ((rdOf ByteArray.empty l0 0).size : Int) (t130.length : Int) (wrap64 (x24_1 + 1))) else (none)))) else (none))) = some r := by first | (rw [hy173]; with_reducible exact H) | (have H2_ := (Option.bind_some _ _).symm.trans H; rw [hy173]; with_reducible exact H2_) | (have H2_ := (Option.bind_some _ _).symm.trans H; with_reducible exact H2_) | with_reducible exact H | (rw [hy173]; exact H) | exact H
                have Ny173 := Aside0.mk hy173
                clear hy173
                replace H := Option.bind_eq_some_iff.mp H
                obtain ⟨t177, A880, H⟩ := H
                replace H : (if t177.length < 17592186044416 then ((some (t177 ++ [(x7_2.length : Int)] : List Int)).bind fun y180 => ((some (x3_1.drop (x14_3 : Int).toNat : List Int)).bind fun y183 => (if y180.length + y183.length < 17592186044416 then (spec_mlPieces.l0 k3 l0 (y180 ++ y183) x4_2 ((rdOf ByteArray.empty l0 0).size : Int) (t130.length : Int) (wrap64 (x24_1 + 1))) else (none)))) else (none)) = some r := H
                have A88 := Aside0.mk A880
                clear A880
                by_cases c89 : t177.length < 17592186044416
                ·rw [if_pos c89] at H
                 have LMc89 := Aside0.mk c89
                 clear c89
                 obtain ⟨y180, hy180⟩ : ∃ y_ : List Int, y_ = (t177 ++ [(x7_2.length : Int)]) := ⟨_, rfl⟩
                 replace H : ((some (x3_1.drop (x14_3 : Int).toNat : List Int)).bind fun y183 => (if y180.length + y183.length < 17592186044416 then (spec_mlPieces.l0 k3 l0 (y180 ++ y183) x4_2 ((rdOf ByteArray.empty l0 0).size : Int) (t130.length : Int) (wrap64 (x24_1 + 1))) else (none))) = some r := by first | (rw [hy180]; with_reducible exact H) | (have H2_ := (Option.bind_some _ _).symm.trans H; rw [hy180]; with_reducible exact H2_) | (have H2_ := (Option.bind_some _ _).symm.trans H; with_reducible exact H2_) | with_reducible exact H | (rw [hy180]; exact H) | exact H
                 have Ny180 := Aside0.mk hy180
                 clear hy180
                 have c90b0 := eq_true (of_decide_eq_true (by first | (with_reducible assumption) | assumption) : 0 ≤ x14_3)
                 have c91b0 := eq_true (of_decide_eq_true (by first | (with_reducible assumption) | assumption) : x14_3 ≤ (x3_1.length : Int))
                 obtain ⟨y183, hy183⟩ : ∃ y_ : List Int, y_ = (x3_1.drop (x14_3 : Int).toNat) := ⟨_, rfl⟩
                 replace H : (if y180.length + y183.length < 17592186044416 then (spec_mlPieces.l0 k3 l0 (y180 ++ y183) x4_2 ((rdOf ByteArray.empty l0 0).size : Int) (t130.length : Int) (wrap64 (x24_1 + 1))) else (none)) = some r := by first | (rw [hy183]; with_reducible exact H) | (have H2_ := (Option.bind_some _ _).symm.trans H; rw [hy183]; with_reducible exact H2_) | (have H2_ := (Option.bind_some _ _).symm.trans H; with_reducible exact H2_) | with_reducible exact H | (rw [hy183]; exact H) | exact H
                 have Ny183 := Aside0.mk hy183
                 clear hy183
                 by_cases c92 : y180.length + y183.length < 17592186044416
                 ·rw [if_pos c92] at H
                  have LMc92 := Aside0.mk c92
                  clear c92
                  obtain ⟨y187, hy187⟩ : ∃ y_ : List Int, y_ = (y180 ++ y183) := ⟨_, rfl⟩
                  replace H : (spec_mlPieces.l0 k3 l0 y187 x4_2 ((rdOf ByteArray.empty l0 0).size : Int) (t130.length : Int) (wrap64 (x24_1 + 1))) = some r := by first | (rw [hy187]; with_reducible exact H) | (have H2_ := (Option.bind_some _ _).symm.trans H; rw [hy187]; with_reducible exact H2_) | (have H2_ := (Option.bind_some _ _).symm.trans H; with_reducible exact H2_) | with_reducible exact H | (rw [hy187]; exact H) | exact H
                  have Ny187 := Aside0.mk hy187
                  clear hy187
                  have H' := Aside0.mk H
                  clear H
                  have q93 : (x14_3 : Int) ≤ ((x3_1.length : Int) : Int) := of_decide_eq_true (by first | (with_reducible assumption) | assumption)
                  obtain ⟨i093, hi093, _, hsz93, _⟩ := info_parts info3
                  have hroom93 : x3_1.length ≤ co68 := (Kd.R_reads' HO_3.out).2.1
                  have hC93 : Kd.C (Kd.int .i64) _ Ao68 x3_1.length x3_1 := (Kd.R_reads' HO_3.out).2.2
                  have hcut93 := cut_to (P := Tryd.prog) 35 3 .i64 Tryd.underlying35 hi093 Ao68 x3_1.length co68 x14_3 (of_decide_eq_true (by first | (with_reducible assumption) | assumption)) q93 hroom93
                  have hr93 := Kd.C_take (m := (x14_3 : Int).toNat) hC93 (by omega)
                  have hy93 : y173.length = (x14_3 : Int).toNat := (by rw [Ny173.out, List.length_take]; omega)
                  rw [← Ny173.out] at hr93
                  rw [← hy93] at hcut93
                  have HR176 := Aside0.mk hr93
                  have HC176 := Aside0.mk (show y173.length ≤ co68 from by omega)
                  clear hr93 hC93 hroom93 hi093 hsz93
                  have KY93 := Aside0.mk hy93
                  clear hy93
                  have KL93 := Aside0.mk (show (x14_3 : Int).toNat ≤ x3_1.length from by omega)
                  replace q93 := eq_true q93
                  go_wp2_with (first | ((with_reducible refine gate_callee (f := 63) rfl ?_); refine goesL_ (some 119) rfl rfl Tryd.func63 (by kernel_rfl) rfl #[.slice Ao68 y173.length co68] rfl (by (try simp only [List.map_toArray, List.map_cons, List.map_nil]); first | done | rfl | (simp only [List.length_drop, List.length_take]; rfl)) ?_; (with_reducible refine (spec_l1Own.calls _ _ y173 t177 _ ?side1 ?side2 A88.out).mono ?_); (case side1 => repeat (first | exact (by repeat (first | (with_reducible exact HR176.out) | (with_reducible refine Kd.C_alloc ?_ _) | (with_reducible refine Kd.C_drewN ?_ _) | (with_reducible refine Kd.C_drew ?_) | exact HR176.out)) | (with_reducible refine Kd.C_alloc ?_ _) | (with_reducible refine Kd.C_drewN ?_ _) | (with_reducible refine Kd.C_drew ?_))); (case side2 => exact HC176.out); rintro e w94 ⟨v178, rfl, ho0, hb⟩; refine ⟨_, rfl, ?_⟩; have n0_ := Aside0.mk (Kd.R_elder' (by (with_reducible repeat (first | apply Kd.R_alloc | apply Kd.R_drewN | apply Kd.R_drew)); exact HO_3.out) (Kd.R_base ho0) hb); have n1_ := Aside0.mk (Kd.R_below (by (with_reducible repeat (first | apply Kd.R_alloc | apply Kd.R_drewN | apply Kd.R_drew)); exact HO_4.out) hb); have n2_ := Aside0.mk (Kd.R_elder' (by (with_reducible repeat (first | apply Kd.R_alloc | apply Kd.R_drewN | apply Kd.R_drew)); exact HO_7.out) (Kd.R_base ho0) hb); have n3_ := Aside0.mk (Kd.R_lower (Kd.R_new' (Kd.R_new' ho0 (Kd.R_lt (by (with_reducible repeat (first | apply Kd.R_alloc | apply Kd.R_drewN | apply Kd.R_drew)); exact HO_3.out))) (Kd.R_lt (by (with_reducible repeat (first | apply Kd.R_alloc | apply Kd.R_drewN | apply Kd.R_drew)); exact HO_7.out))) (below_size (by repeat (first | (with_reducible first | exact HB.out | apply below_alloc | apply pw_below_drewN | apply below_drew1) | exact HB.out)))); have n4_ := Aside0.mk (Kd.C_below (by repeat (first | (with_reducible exact HR176.out) | (with_reducible refine Kd.C_alloc ?_ _) | (with_reducible refine Kd.C_drewN ?_ _) | (with_reducible refine Kd.C_drew ?_) | exact HR176.out)) hb); have n5_ := Aside0.mk (below_step (by repeat (first | (with_reducible first | exact HB.out | apply below_alloc | apply pw_below_drewN | apply below_drew1) | exact HB.out)) hb); clear HO_3; clear HO_4; clear HO_7; clear HR176; clear HB; have HO_3 := n0_; have HO_4 := n1_; have HO_7 := n2_; have HO179 := n3_; have HR176 := n4_; have HB := n5_; clear n0_ n1_ n2_ n3_ n4_ n5_; (try clear hb); (try clear hb2); (try clear hk); (try clear hi); (try clear ho0)) | ((with_reducible refine gate_builtin (b := .append) (xs := #[.tmp 119, .tmp 122]) rfl ?_); (try (refine gate_guard (by rfl) ?_; dsimp only)); at_builtin; refine Kd.R_append (Kd.int .i64) (w0 := w) w.heap.size rfl (.tmp 119) (.tmp 122) 35 3 (.int .i64 0) 8 rfl Tryd.underlying35 info3 rfl (by decide) (by omega) v178 t177 (x7_2.length : Int) [.int .i64 (x7_2.length : Int)] (fun k_ => some k_ ≠ (.slice Ao68 x3_1.length co68 : Value).ownBlock ∧ some k_ ≠ (.slice Ao67 x7_2.length co67 : Value).ownBlock) (fun _ => False) rfl rfl ?aP (fun _ hk => hk.elim) ?aF ?aO ?aB ?aS ?aL ?_; (case aP => exact rfl); (case aB => exact (by repeat (first | (with_reducible first | exact HB.out | apply below_alloc | apply pw_below_drewN | apply below_drew1) | exact HB.out))); (case aF => exact (fun k_ hk => ⟨Kd.fresh' (Kd.R_lt (by (with_reducible repeat (first | apply Kd.R_alloc | apply Kd.R_drewN | apply Kd.R_drew)); exact HO_3.out)) k_ hk, Kd.fresh' (Kd.R_lt (by (with_reducible repeat (first | apply Kd.R_alloc | apply Kd.R_drewN | apply Kd.R_drew)); exact HO_7.out)) k_ hk⟩)); (case aO => exact (by (with_reducible repeat (first | apply Kd.R_alloc | apply Kd.R_drewN | apply Kd.R_drew)); exact Kd.R_mono HO179.out (fun _ hk => ⟨hk.1.2, hk.2⟩))); (case aS => exact (below_size (by repeat (first | (with_reducible first | exact HB.out | apply below_alloc | apply pw_below_drewN | apply below_drew1) | exact HB.out)))); (case aL => have := LMc89.out; omega); intro v181 w95 ho hb hg hat; rw [← Ny180.out] at ho; have n0_ := Aside0.mk (Kd.R_after (ok := (fun k_ => some k_ ≠ (.slice Ao67 x7_2.length co67 : Value).ownBlock)) (by (with_reducible repeat (first | apply Kd.R_alloc | apply Kd.R_drewN | apply Kd.R_drew)); exact HO_3.out) hg hat); have n1_ := Aside0.mk (Kd.R_over' (by (with_reducible repeat (first | apply Kd.R_alloc | apply Kd.R_drewN | apply Kd.R_drew)); exact HO_4.out) (Kd.R_typed (by (with_reducible repeat (first | apply Kd.R_alloc | apply Kd.R_drewN | apply Kd.R_drew)); exact HO179.out)) (by decide) hg); have n2_ := Aside0.mk (Kd.R_after (ok := (fun k_ => some k_ ≠ (.slice Ao68 x3_1.length co68 : Value).ownBlock)) (by (with_reducible repeat (first | apply Kd.R_alloc | apply Kd.R_drewN | apply Kd.R_drew)); exact HO_7.out) hg hat); have n3_ := Aside0.mk (hb); have n4_ := Aside0.mk ((show Kd.C (Kd.int .i64) w95 Ao68 y173.length y173 from by rw [Ny173.out]; exact Kd.C_take (m := (x14_3 : Int).toNat) ((Kd.R_reads' (Kd.R_after (ok := (fun k_ => some k_ ≠ (.slice Ao67 x7_2.length co67 : Value).ownBlock)) (by (with_reducible repeat (first | apply Kd.R_alloc | apply Kd.R_drewN | apply Kd.R_drew)); exact HO_3.out) hg hat)).2.2) KL93.out)); have n5_ := Aside0.mk (ho); clear HO_3; clear HO_4; clear HO_7; clear HB; clear HR176; clear HO179; have HO_3 := n0_; have HO_4 := n1_; have HO_7 := n2_; have HB := n3_; have HR176 := n4_; have HO182 := n5_; clear n0_ n1_ n2_ n3_ n4_ n5_; clear ho hb hg hat; have q96 : (x14_3 : Int) ≤ ((x3_1.length : Int) : Int) := of_decide_eq_true (by first | (with_reducible assumption) | assumption); obtain ⟨i096, hi096, _, hsz96, _⟩ := info_parts info3; have hroom96 : x3_1.length ≤ co68 := (Kd.R_reads' HO_3.out).2.1; have hC96 : Kd.C (Kd.int .i64) _ Ao68 x3_1.length x3_1 := (Kd.R_reads' HO_3.out).2.2; have q096 : (0 : Int) ≤ (x14_3 : Int) := of_decide_eq_true (by first | (with_reducible assumption) | assumption); have hcut96 := cut_from (P := Tryd.prog) 35 3 .i64 Tryd.underlying35 hi096 1 hsz96 Ao68 x3_1.length co68 x14_3 q096 q96; have hr96 := Kd.C_drop (m := (x14_3 : Int).toNat) (c := co68) hC96 (by omega) hroom96; obtain ⟨A96, hA96⟩ : ∃ A1, A1 = (if co68 = (x14_3 : Int).toNat then Ao68 else (Ao68 : Option Addr).map (·.add ((x14_3 : Int).toNat * 1))) := ⟨_, rfl⟩; obtain ⟨c96, hc96⟩ : ∃ c1, c1 = co68 - (x14_3 : Int).toNat := ⟨_, rfl⟩; have hy96 : y183.length = x3_1.length - (x14_3 : Int).toNat := (by rw [Ny183.out, List.length_drop] <;> omega); rw [show (x3_1).drop (x14_3 : Int).toNat = y183 from Ny183.out.symm] at hr96; replace hr96 : Kd.C (Kd.int .i64) _ A96 y183.length y183 := (by rw [hA96]; exact hr96); rw [← hy96, ← hA96, ← hc96] at hcut96; have HR186 := Aside0.mk hr96; have HC186 := Aside0.mk (show y183.length ≤ c96 from by rw [hy96, hc96]; exact Nat.sub_le_sub_right hroom96 _); clear hr96 hC96 hroom96 hi096 hsz96 hc96; have KY96 := Aside0.mk hy96; have KA96 := Aside0.mk hA96; clear hy96 hA96; have KL96 := Aside0.mk (show (x14_3 : Int).toNat ≤ x3_1.length from by omega); replace q96 := eq_true q96) | ((with_reducible refine gate_builtin (b := .append) (xs := #[.tmp 124, .tmp 127]) rfl ?_); (try (refine gate_guard (by rfl) ?_; dsimp only)); at_builtin; refine Kd.R_append_rows (Kd.int .i64) (w0 := w) w.heap.size rfl (.tmp 124) (.tmp 127) 35 3 (.int .i64 0) 8 rfl Tryd.underlying35 info3 rfl (by decide) (by omega) v181 y180 y183 _ _ _ (fun k_ => some k_ ≠ (.slice Ao68 x3_1.length co68 : Value).ownBlock ∧ some k_ ≠ (.slice Ao67 x7_2.length co67 : Value).ownBlock) (fun _ => False) rfl rfl ?aO ?aR (fun _ _ h => h) (fun _ h => h.elim) ?aF ?aB ?aS ?aL ?_; (case aR => repeat (first | exact (by repeat (first | (with_reducible exact HR186.out) | (with_reducible refine Kd.C_alloc ?_ _) | (with_reducible refine Kd.C_drewN ?_ _) | (with_reducible refine Kd.C_drew ?_) | exact HR186.out)) | (with_reducible refine Kd.C_alloc ?_ _) | (with_reducible refine Kd.C_drewN ?_ _) | (with_reducible refine Kd.C_drew ?_))); (case aB => exact (by repeat (first | (with_reducible first | exact HB.out | apply below_alloc | apply pw_below_drewN | apply below_drew1) | exact HB.out))); (case aF => exact (fun k_ hk => ⟨Kd.fresh' (Kd.R_lt (by (with_reducible repeat (first | apply Kd.R_alloc | apply Kd.R_drewN | apply Kd.R_drew)); exact HO_3.out)) k_ hk, Kd.fresh' (Kd.R_lt (by (with_reducible repeat (first | apply Kd.R_alloc | apply Kd.R_drewN | apply Kd.R_drew)); exact HO_7.out)) k_ hk⟩)); (case aO => exact (by (with_reducible repeat (first | apply Kd.R_alloc | apply Kd.R_drewN | apply Kd.R_drew)); exact HO182.out)); (case aS => exact (below_size (by repeat (first | (with_reducible first | exact HB.out | apply below_alloc | apply pw_below_drewN | apply below_drew1) | exact HB.out)))); (case aL => have := LMc92.out; omega); intro v188 w97 ho hb hg hat; rw [← Ny187.out] at ho; have n0_ := Aside0.mk (Kd.R_after (ok := (fun k_ => some k_ ≠ (.slice Ao67 x7_2.length co67 : Value).ownBlock)) (by (with_reducible repeat (first | apply Kd.R_alloc | apply Kd.R_drewN | apply Kd.R_drew)); exact HO_3.out) hg hat); have n1_ := Aside0.mk (Kd.R_over' (by (with_reducible repeat (first | apply Kd.R_alloc | apply Kd.R_drewN | apply Kd.R_drew)); exact HO_4.out) (Kd.R_typed (by (with_reducible repeat (first | apply Kd.R_alloc | apply Kd.R_drewN | apply Kd.R_drew)); exact HO182.out)) (by decide) hg); have n2_ := Aside0.mk (Kd.R_after (ok := (fun k_ => some k_ ≠ (.slice Ao68 x3_1.length co68 : Value).ownBlock)) (by (with_reducible repeat (first | apply Kd.R_alloc | apply Kd.R_drewN | apply Kd.R_drew)); exact HO_7.out) hg hat); have n3_ := Aside0.mk (hb); have n4_ := Aside0.mk ((show Kd.C (Kd.int .i64) w97 Ao68 y173.length y173 from by rw [Ny173.out]; exact Kd.C_take (m := (x14_3 : Int).toNat) ((Kd.R_reads' (Kd.R_after (ok := (fun k_ => some k_ ≠ (.slice Ao67 x7_2.length co67 : Value).ownBlock)) (by (with_reducible repeat (first | apply Kd.R_alloc | apply Kd.R_drewN | apply Kd.R_drew)); exact HO_3.out) hg hat)).2.2) KL93.out)); have n5_ := Aside0.mk ((show Kd.C (Kd.int .i64) w97 A96 y183.length y183 from by rw [Ny183.out, KA96.out]; exact Kd.C_drop (m := (x14_3 : Int).toNat) (c := co68) ((Kd.R_reads' (Kd.R_after (ok := (fun k_ => some k_ ≠ (.slice Ao67 x7_2.length co67 : Value).ownBlock)) (by (with_reducible repeat (first | apply Kd.R_alloc | apply Kd.R_drewN | apply Kd.R_drew)); exact HO_3.out) hg hat)).2.2) KL96.out ((Kd.R_reads' (Kd.R_after (ok := (fun k_ => some k_ ≠ (.slice Ao67 x7_2.length co67 : Value).ownBlock)) (by (with_reducible repeat (first | apply Kd.R_alloc | apply Kd.R_drewN | apply Kd.R_drew)); exact HO_3.out) hg hat)).2.1))); have n6_ := Aside0.mk (ho); clear HO_3; clear HO_4; clear HO_7; clear HB; clear HR176; clear HR186; clear HO182; have HO_3 := n0_; have HO_4 := n1_; have HO_7 := n2_; have HB := n3_; have HR176 := n4_; have HR186 := n5_; have HO189 := n6_; clear n0_ n1_ n2_ n3_ n4_ n5_ n6_; clear ho hb hg hat))
                  (try simp only [← hl4_1, ← hl4_2])
                  go_roundg k3
                  case measure => have := HK1.out; have := HK2.out; have := HK3.out; omega
                  case rel => exact ⟨(y187), (x4_2), (wrap64 (x24_1 + 1)), (by first | rfl | (simp; done) | (simp [*]; done)), H', ⟨by have := HK1.out; have := HK2.out; have := HK3.out; omega⟩, ⟨by (try simp only [hl4_1]); (try simp only [hl4_2]); (with_reducible repeat (first | apply Kd.R_alloc | apply Kd.R_drewN | apply Kd.R_drew)); exact Kd.R_mono HO189.out (fun _ hk => trivial)⟩, ⟨by (try simp only [hl4_1]); (try simp only [hl4_2]); (with_reducible repeat (first | apply Kd.R_alloc | apply Kd.R_drewN | apply Kd.R_drew)); exact HO_4.out⟩, ⟨by repeat (first | (with_reducible first | exact HB.out | apply below_alloc | apply pw_below_drewN | apply below_drew1) | exact HB.out)⟩⟩
                 ·rw [if_neg c92] at H
                  exact absurd H (by simp)
                ·rw [if_neg c89] at H
                 exact absurd H (by simp)
               ·rw [if_neg c87] at H
                exact absurd H (by simp)
              ·rw [if_neg c86] at H
               exact absurd H (by simp)
       ·replace c10 := Bool.eq_false_iff.mpr c10
        subst c10
        have H1 : (spec_mlPieces.l0 k1 l0 x3_1 x4_1 ((rdOf ByteArray.empty l0 0).size : Int) (t130.length : Int) (wrap64 (x24_1 + 1))) = some r := by rw [if_neg (show ¬ (false = true) by decide)] at H; exact H
        clear H
        have H := H1
        clear H1
        have H' := Aside0.mk H
        clear H
        have p134 : 0 ≤ (x24_1 : Int) := of_decide_eq_true (by first | (with_reducible assumption) | assumption)
        have q134 : x24_1 < (x4_1.length : Int) := of_decide_eq_true (by first | (with_reducible assumption) | assumption)
        obtain ⟨ad134, e134, hx134_0⟩ := Kd.at_bool (Kd.R_reads' HO_4.out).2.2 x24_1 p134 q134
        (try rw [← Nbq9.out] at hx134_0)
        cases e134
        replace p134 := eq_true p134
        replace q134 := eq_true q134
        go_wp2
        (try simp only [← hl4_1])
        go_roundg k1
        case measure => have := HK1.out; omega
        case rel => exact ⟨(x3_1), (x4_1), (wrap64 (x24_1 + 1)), (by first | rfl | (simp; done) | (simp [*]; done)), H', ⟨by have := HK1.out; omega⟩, ⟨by (try simp only [hl4_1]); (with_reducible repeat (first | apply Kd.R_alloc | apply Kd.R_drewN | apply Kd.R_drew)); exact HO_3.out⟩, ⟨by (try simp only [hl4_1]); (with_reducible repeat (first | apply Kd.R_alloc | apply Kd.R_drewN | apply Kd.R_drew)); exact HO_4.out⟩, ⟨by repeat (first | (with_reducible first | exact HB.out | apply below_alloc | apply pw_below_drewN | apply below_drew1) | exact HB.out)⟩⟩
      ·rw [if_neg c8] at H
       exact absurd H (by simp)
     ·rw [if_neg c7] at H
      exact absurd H (by simp)
    ·rw [if_neg c6] at H
     have c6b0 : decide (x24_1 < (t130.length : Int)) = false := decide_eq_false c6
     clear c6
     (try simp only [hl4_1] at c6b0)
     obtain rfl := Option.some.inj H
     go_wp2
     go_ret
     exact ⟨_, by first | rfl | (simp [errW_none, errW_some] <;> rfl) | (simp [*, errW_none, errW_some] <;> rfl), by (with_reducible repeat (first | apply Kd.R_alloc | apply Kd.R_drewN | apply Kd.R_drew)); exact HO_3.out, by repeat (first | (with_reducible first | exact HB.out | apply below_alloc | apply pw_below_drewN | apply below_drew1) | exact HB.out)⟩
 ·rw [if_neg c3] at H
  exact absurd H (by simp)

end Go.Proofs.YtaocnjaeaiacmaaDoor.G
