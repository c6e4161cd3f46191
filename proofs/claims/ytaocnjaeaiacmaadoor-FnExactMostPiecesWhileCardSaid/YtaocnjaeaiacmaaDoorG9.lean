-- Laid by a program of this session (wip/pp.py) over the seat's translation, with its own texts for some functions.
import Derived.Test.YtaocnjaeaiacmaaDoorG0
import Derived.Test.YtaocnjaeaiacmaaDoorG3
import Derived.Test.YtaocnjaeaiacmaaDoorG4
import Derived.Test.YtaocnjaeaiacmaaDoorG8
namespace Go.Proofs.YtaocnjaeaiacmaaDoor.G
open Go.RowKit Go.Proofs.YtaocnjaeaiacmaaDoorW.PrintWords Go.Proofs.YtaocnjaeaiacmaaDoorW.PrintLast Go.Proofs.YtaocnjaeaiacmaaDoorW.PrintMore
attribute [local go_sem] max2_int min2_int max_two min_two max_three min_three max_four min_four   -- for this text's walks alone
set_option linter.unusedVariables false
set_option linter.unusedSimpArgs false

/-! ### spec_MostPiecesWhile: function 27 -/
def spec_MostPiecesWhile.l0 : Nat → Int → Int → List (List ByteArray) → Int → Int → Option (Int × Int × Bool)
 | 0, _, _, _, _, _ => none
 | k + 1, x7, x8, x18, x19, x20 => if x20 < x19 then (if 0 ≤ x20 then (if x20 < (x18.length : Int) then ((spec_mlPieces.f k (rd_L3 x18 x20)).bind fun t243 => (if (t243.length : Int) > x7 then (spec_MostPiecesWhile.l0 k (t243.length : Int) x20 x18 x19 (wrap64 (x20 + 1))) else (spec_MostPiecesWhile.l0 k x7 x8 x18 x19 (wrap64 (x20 + 1))))) else (none)) else (none)) else (some (x7, x8, true))
def spec_MostPiecesWhile.f (k : Nat) (l0 : List ByteArray) (a1 : Int) : Option (Int × Int × Bool) := (spec_mlAsked.f k l0 a1).bind fun t238 => (if t238 = true then ((spec_mlAll.f k l0 a1).bind fun t239 => (spec_MostPiecesWhile.l0 k (-1) 0 t239 (t239.length : Int) 0)) else (some (0, 0, false)))
theorem spec_MostPiecesWhile.mono_l : ∀ k, (∀ y0 y1 y2 y3 y4, LeO (spec_MostPiecesWhile.l0 k y0 y1 y2 y3 y4) (spec_MostPiecesWhile.l0 (k + 1) y0 y1 y2 y3 y4))
 | 0 => fun _ _ _ _ _ r h => by simp [spec_MostPiecesWhile.l0] at h
 | k + 1 => by
  have ih0 := spec_MostPiecesWhile.mono_l k
  ·intro y0 y1 y2 y3 y4
   unfold spec_MostPiecesWhile.l0
   repeat' first
   | (with_reducible exact ih0 _ _ _ _ _)
   | (with_reducible exact spec_mlAll.mono _ _ _)
   | (with_reducible exact spec_mlAsked.mono _ _ _)
   | (with_reducible exact spec_mlPieces.mono _ _)
   | (with_reducible exact LeO.refl _)
   | (with_reducible exact LeO.none _)
   | (with_reducible refine LeO.ite ?_ ?_)
   | (with_reducible refine LeO.bind ?_ (fun _ => ?_))
   | exact ih0 _ _ _ _ _
   | exact spec_mlAll.mono _ _ _
   | exact spec_mlAsked.mono _ _ _
   | exact spec_mlPieces.mono _ _
   | exact LeO.none _
   | refine LeO.ite ?_ ?_
   | refine LeO.bind ?_ (fun _ => ?_)
theorem spec_MostPiecesWhile.mono : ∀ a0 a1 k, LeO (spec_MostPiecesWhile.f k a0 a1) (spec_MostPiecesWhile.f (k + 1) a0 a1) := by
 intro a0 a1 k
 have ih0 := spec_MostPiecesWhile.mono_l k
 unfold spec_MostPiecesWhile.f
 repeat' first
   | (with_reducible exact ih0 _ _ _ _ _)
   | (with_reducible exact spec_mlAll.mono _ _ _)
   | (with_reducible exact spec_mlAsked.mono _ _ _)
   | (with_reducible exact spec_mlPieces.mono _ _)
   | (with_reducible exact LeO.refl _)
   | (with_reducible exact LeO.none _)
   | (with_reducible refine LeO.ite ?_ ?_)
   | (with_reducible refine LeO.bind ?_ (fun _ => ?_))
   | exact ih0 _ _ _ _ _
   | exact spec_mlAll.mono _ _ _
   | exact spec_mlAsked.mono _ _ _
   | exact spec_mlPieces.mono _ _
   | exact LeO.none _
   | refine LeO.ite ?_ ?_
   | refine LeO.bind ?_ (fun _ => ?_)
set_option maxHeartbeats 8000000 in
set_option maxRecDepth 100000 in
theorem spec_MostPiecesWhile.calls (k : Nat) (A0 : Option Addr) (c0 : Nat) (l0 : List ByteArray) (a1 : Int) (r1 : Int) (r2 : Int) (r3 : Bool) (w : World) (hr0 : Kd.C Kd.string w A0 l0.length l0) (hc0 : l0.length ≤ c0) (h : spec_MostPiecesWhile.f k l0 a1 = some (r1, r2, r3)) :
  Calls Tryd.prog 27 #[.slice A0 l0.length c0, .int .i64 a1] w fun e w' => e = .returned (.tuple #[.int .i64 r1, .int .i64 r2, .bool r3]) ∧ Below w.heap.size w w' := by
 have HR0 := Aside0.mk hr0
 have HC0 := Aside0.mk hc0
 clear hr0 hc0
 have HB := Aside0.mk (Below.refl w.heap.size w)
 have H : ((spec_mlAsked.f k l0 a1).bind fun t238 => (if t238 = true then ((spec_mlAll.f k l0 a1).bind fun t239 => (spec_MostPiecesWhile.l0 k (-1) 0 t239 (t239.length : Int) 0)) else (some (0, 0, false)))) = some (r1, r2, r3) := h
 clear h
 replace H := Option.bind_eq_some_iff.mp H
 obtain ⟨t238, A30, H⟩ := H
 replace H : (if t238 = true then ((spec_mlAll.f k l0 a1).bind fun t239 => (spec_MostPiecesWhile.l0 k (-1) 0 t239 (t239.length : Int) 0)) else (some (0, 0, false))) = some (r1, r2, r3) := H
 have A3 := Aside0.mk A30
 clear A30
 by_cases c4 : t238 = true
 ·subst c4
  have H1 : ((spec_mlAll.f k l0 a1).bind fun t239 => (spec_MostPiecesWhile.l0 k (-1) 0 t239 (t239.length : Int) 0)) = some (r1, r2, r3) := by rw [if_pos rfl] at H; exact H
  clear H
  have H := H1
  clear H1
  replace H := Option.bind_eq_some_iff.mp H
  obtain ⟨t239, A50, H⟩ := H
  replace H : (spec_MostPiecesWhile.l0 k (-1) 0 t239 (t239.length : Int) 0) = some (r1, r2, r3) := H
  have A5 := Aside0.mk A50
  clear A50
  have H' := Aside0.mk H
  clear H
  go_enter Tryd.func27, Tryd.ntmps27
  go_wp2_with (first | ((with_reducible refine gate_callee (f := 37) rfl ?_); refine goesL_ (some 14) rfl rfl Tryd.func37 (by kernel_rfl) rfl #[.slice A0 l0.length c0, .int .i64 a1] rfl (by (try simp only [List.map_toArray, List.map_cons, List.map_nil]); first | done | rfl | (simp only [List.length_drop, List.length_take]; rfl)) ?_; (with_reducible refine (spec_mlAsked.calls k _ _ l0 a1 true _ ?side1 ?side2 A3.out).mono ?_); (case side1 => repeat (first | exact HR0.out | (with_reducible refine Kd.C_alloc ?_ _) | (with_reducible refine Kd.C_drewN ?_ _) | (with_reducible refine Kd.C_drew ?_))); (case side2 => exact HC0.out); rintro e w' ⟨rfl, ⟨nd, rfl⟩⟩; refine ⟨_, rfl, ?_⟩) | ((with_reducible refine gate_callee (f := 48) rfl ?_); refine goesL_ (some 18) rfl rfl Tryd.func48 (by kernel_rfl) rfl #[.slice A0 l0.length c0, .int .i64 a1] rfl (by (try simp only [List.map_toArray, List.map_cons, List.map_nil]); first | done | rfl | (simp only [List.length_drop, List.length_take]; rfl)) ?_; (with_reducible refine (spec_mlAll.calls k _ _ l0 a1 t239 _ ?side1 ?side2 A5.out).mono ?_); (case side1 => repeat (first | exact HR0.out | (with_reducible refine Kd.C_alloc ?_ _) | (with_reducible refine Kd.C_drewN ?_ _) | (with_reducible refine Kd.C_drew ?_))); (case side2 => exact HC0.out); rintro e w6 ⟨v240, rfl, ho0, hb⟩; refine ⟨_, rfl, ?_⟩; have n0_ := Aside0.mk (Kd.N_lower (Kd.N_mono (ok' := fun k_ => True) ho0 (fun k_ hk_ => trivial)) (below_size (by repeat (first | (with_reducible first | exact HB.out | apply below_alloc | apply pw_below_drewN | apply below_drew1) | exact HB.out)))); have n1_ := Aside0.mk (below_step (by repeat (first | (with_reducible first | exact HB.out | apply below_alloc | apply pw_below_drewN | apply below_drew1) | exact HB.out)) hb); clear HB; have HO241 := n0_; have HB := n1_; clear n0_ n1_; (try clear hb); (try clear hb2); (try clear hk); (try clear hi); (try clear ho0); obtain ⟨Ao7, co7, eo7⟩ := Kd.N_slice HO241.out; subst eo7))
  go_loopg [7, 8, 20] k (fun kq v7 v8 v20 w' => ∃ (x7_1 : Int) (x8_1 : Int) (x20_1 : Int), v7 = .int .i64 x7_1 ∧ v8 = .int .i64 x8_1 ∧ v20 = .int .i64 x20_1 ∧ Aside0 (spec_MostPiecesWhile.l0 kq x7_1 x8_1 t239 (t239.length : Int) x20_1 = some (r1, r2, r3)) ∧ Aside0 (kq ≤ k) ∧ Aside0 (Kd.N (Kd.slice 9 Kd.string) 22 w' w.heap.size (fun _ => True) (.slice Ao7 t239.length co7) t239) ∧ Aside0 (Below w.heap.size w w'))
  case atStart => exact ⟨((-1)), (0), (0), (by first | rfl | (simp; done) | (simp [*]; done)), (by first | rfl | (simp; done) | (simp [*]; done)), (by first | rfl | (simp; done) | (simp [*]; done)), H', ⟨Nat.le_refl _⟩, ⟨by (with_reducible repeat (first | apply Kd.N_alloc | apply Kd.N_drewN | apply Kd.N_drew)); exact HO241.out⟩, ⟨by repeat (first | (with_reducible first | exact HB.out | apply below_alloc | apply pw_below_drewN | apply below_drew1) | exact HB.out)⟩⟩
  case round =>
   clear H'
   try clear c2
   try clear p2
   try clear c3
   try clear c4
   obtain ⟨x7_1, x8_1, x20_1, rfl, rfl, rfl, HA, HK1, HO_18, HB⟩ := hrel
   cases gk with
   | zero => exact absurd HA.out (by simp [spec_MostPiecesWhile.l0])
   | succ k1 =>
    have H := HA.out
    clear HA
    simp only [spec_MostPiecesWhile.l0] at H
    by_cases c8 : x20_1 < (t239.length : Int)
    ·rw [if_pos c8] at H
     have c8b0 : decide (x20_1 < (t239.length : Int)) = true := decide_eq_true c8
     clear c8
     by_cases c9 : 0 ≤ x20_1
     ·rw [if_pos c9] at H
      have c9b0 : decide (0 ≤ x20_1) = true := decide_eq_true c9
      clear c9
      by_cases c10 : x20_1 < (t239.length : Int)
      ·rw [if_pos c10] at H
       have c10b0 : decide (x20_1 < (t239.length : Int)) = true := decide_eq_true c10
       clear c10
       replace H := Option.bind_eq_some_iff.mp H
       obtain ⟨t243, A110, H⟩ := H
       replace H : (if (t243.length : Int) > x7_1 then (spec_MostPiecesWhile.l0 k1 (t243.length : Int) x20_1 t239 (t239.length : Int) (wrap64 (x20_1 + 1))) else (spec_MostPiecesWhile.l0 k1 x7_1 x8_1 t239 (t239.length : Int) (wrap64 (x20_1 + 1)))) = some (r1, r2, r3) := H
       have A11 := Aside0.mk A110
       clear A110
       by_cases c12 : (t243.length : Int) > x7_1
       ·rw [if_pos c12] at H
        have c12b0 : decide (x7_1 < (t243.length : Int)) = true := decide_eq_true c12
        clear c12
        have H' := Aside0.mk H
        clear H
        have p242 : 0 ≤ (x20_1 : Int) := of_decide_eq_true (by first | (with_reducible assumption) | assumption)
        have q242 : x20_1 < (t239.length : Int) := of_decide_eq_true (by first | (with_reducible assumption) | assumption)
        obtain ⟨ad242, A242_0, c242_0, e242, hx242_0, hl242_0, hi242_0⟩ := at_L3 (Kd.N_reads' HO_18.out).2.2 x20_1 p242 q242
        cases e242
        obtain ⟨ce242, hce242, hMe242, hcc242⟩ := Kd.N_get HO_18.out [] x20_1 p242 (by first | exact q242 | exact of_decide_eq_true (by first | (with_reducible assumption) | assumption) | (have e_ := (Kd.N_reads' HO_18.out).1; omega))
        obtain ⟨ua242_0, uc242_0, rfl, ul242_0, ge242_0⟩ := Kd.FK_slice_open hMe242
        have hv242_0 := hcc242 0 _ rfl
        rw [Nat.add_zero, show ((Kd.slice 9 Kd.string)).sz = 1 from rfl, Nat.mul_one] at hv242_0
        replace hv242_0 := Option.some.inj (hv242_0.symm.trans hx242_0)
        injection hv242_0 with hva_ hvn_ hvc_
        rw [hva_] at ge242_0
        rw [hvc_] at ul242_0
        have HL242_0 := Aside0.mk (show Kd.V Kd.string 9 _ w.heap.size _ _ (rd_L3 t239 x20_1) from Kd.V_mk ul242_0 ge242_0)
        clear hva_ hvn_ hvc_ ge242_0 ul242_0
        clear hcc242 hce242
        have HR242_0 := Aside0.mk hi242_0
        have HC242_0 := Aside0.mk hl242_0
        clear hi242_0 hl242_0
        replace p242 := eq_true p242
        replace q242 := eq_true q242
        go_wp2_with (first | ((with_reducible refine gate_callee (f := 46) rfl ?_); refine goesL_ (some 26) rfl rfl Tryd.func46 (by kernel_rfl) rfl #[.slice A242_0 (rd_L3 t239 x20_1).length c242_0] rfl (by (try simp only [List.map_toArray, List.map_cons, List.map_nil]); first | done | rfl | (simp only [List.length_drop, List.length_take]; rfl)) ?_; (with_reducible refine (spec_mlPieces.calls k1 _ _ (rd_L3 t239 x20_1) t243 _ ?side1 ?side2 A11.out).mono ?_); (case side1 => repeat (first | exact (by repeat (first | (with_reducible exact HR242_0.out) | (with_reducible refine Kd.C_alloc ?_ _) | (with_reducible refine Kd.C_drewN ?_ _) | (with_reducible refine Kd.C_drew ?_) | exact HR242_0.out)) | (with_reducible refine Kd.C_alloc ?_ _) | (with_reducible refine Kd.C_drewN ?_ _) | (with_reducible refine Kd.C_drew ?_))); (case side2 => exact HC242_0.out); rintro e w13 ⟨v244, rfl, ho0, hb⟩; refine ⟨_, rfl, ?_⟩; have n0_ := Aside0.mk (Kd.N_elder' (by (with_reducible repeat (first | apply Kd.N_alloc | apply Kd.N_drewN | apply Kd.N_drew)); exact HO_18.out) (Kd.R_base ho0) hb); have n1_ := Aside0.mk (Kd.V_elder' (by (with_reducible repeat (first | apply Kd.V_alloc | apply Kd.V_drewN | apply Kd.V_drew)); exact HL242_0.out) (Kd.R_base ho0) hb); have n2_ := Aside0.mk (Kd.R_lower ho0 (below_size (by repeat (first | (with_reducible first | exact HB.out | apply below_alloc | apply pw_below_drewN | apply below_drew1) | exact HB.out)))); have n3_ := Aside0.mk (Kd.C_below (by repeat (first | (with_reducible exact HR242_0.out) | (with_reducible refine Kd.C_alloc ?_ _) | (with_reducible refine Kd.C_drewN ?_ _) | (with_reducible refine Kd.C_drew ?_) | exact HR242_0.out)) hb); have n4_ := Aside0.mk (below_step (by repeat (first | (with_reducible first | exact HB.out | apply below_alloc | apply pw_below_drewN | apply below_drew1) | exact HB.out)) hb); clear HO_18; clear HL242_0; clear HR242_0; clear HB; have HO_18 := n0_; have HL242_0 := n1_; have HO245 := n2_; have HR242_0 := n3_; have HB := n4_; clear n0_ n1_ n2_ n3_ n4_; (try clear hb); (try clear hb2); (try clear hk); (try clear hi); (try clear ho0); obtain ⟨Ao14, co14, eo14⟩ := Kd.R_slice HO245.out; subst eo14))
        go_roundg k1
        case measure => have := HK1.out; omega
        case rel => exact ⟨((t243.length : Int)), (x20_1), (wrap64 (x20_1 + 1)), (by first | rfl | (simp; done) | (simp [*]; done)), (by first | rfl | (simp; done) | (simp [*]; done)), (by first | rfl | (simp; done) | (simp [*]; done)), H', ⟨by have := HK1.out; omega⟩, ⟨by (with_reducible repeat (first | apply Kd.N_alloc | apply Kd.N_drewN | apply Kd.N_drew)); exact Kd.N_mono HO_18.out (fun _ hk => trivial)⟩, ⟨by repeat (first | (with_reducible first | exact HB.out | apply below_alloc | apply pw_below_drewN | apply below_drew1) | exact HB.out)⟩⟩
       ·rw [if_neg c12] at H
        have c12b0 : decide (x7_1 < (t243.length : Int)) = false := decide_eq_false c12
        clear c12
        have H' := Aside0.mk H
        clear H
        have p242 : 0 ≤ (x20_1 : Int) := of_decide_eq_true (by first | (with_reducible assumption) | assumption)
        have q242 : x20_1 < (t239.length : Int) := of_decide_eq_true (by first | (with_reducible assumption) | assumption)
        obtain ⟨ad242, A242_0, c242_0, e242, hx242_0, hl242_0, hi242_0⟩ := at_L3 (Kd.N_reads' HO_18.out).2.2 x20_1 p242 q242
        cases e242
        obtain ⟨ce242, hce242, hMe242, hcc242⟩ := Kd.N_get HO_18.out [] x20_1 p242 (by first | exact q242 | exact of_decide_eq_true (by first | (with_reducible assumption) | assumption) | (have e_ := (Kd.N_reads' HO_18.out).1; omega))
        obtain ⟨ua242_0, uc242_0, rfl, ul242_0, ge242_0⟩ := Kd.FK_slice_open hMe242
        have hv242_0 := hcc242 0 _ rfl
        rw [Nat.add_zero, show ((Kd.slice 9 Kd.string)).sz = 1 from rfl, Nat.mul_one] at hv242_0
        replace hv242_0 := Option.some.inj (hv242_0.symm.trans hx242_0)
        injection hv242_0 with hva_ hvn_ hvc_
        rw [hva_] at ge242_0
        rw [hvc_] at ul242_0
        have HL242_0 := Aside0.mk (show Kd.V Kd.string 9 _ w.heap.size _ _ (rd_L3 t239 x20_1) from Kd.V_mk ul242_0 ge242_0)
        clear hva_ hvn_ hvc_ ge242_0 ul242_0
        clear hcc242 hce242
        have HR242_0 := Aside0.mk hi242_0
        have HC242_0 := Aside0.mk hl242_0
        clear hi242_0 hl242_0
        replace p242 := eq_true p242
        replace q242 := eq_true q242
        go_wp2_with (first | ((with_reducible refine gate_callee (f := 46) rfl ?_); refine goesL_ (some 26) rfl rfl Tryd.func46 (by kernel_rfl) rfl #[.slice A242_0 (rd_L3 t239 x20_1).length c242_0] rfl (by (try simp only [List.map_toArray, List.map_cons, List.map_nil]); first | done | rfl | (simp only [List.length_drop, List.length_take]; rfl)) ?_; (with_reducible refine (spec_mlPieces.calls k1 _ _ (rd_L3 t239 x20_1) t243 _ ?side1 ?side2 A11.out).mono ?_); (case side1 => repeat (first | exact (by repeat (first | (with_reducible exact HR242_0.out) | (with_reducible refine Kd.C_alloc ?_ _) | (with_reducible refine Kd.C_drewN ?_ _) | (with_reducible refine Kd.C_drew ?_) | exact HR242_0.out)) | (with_reducible refine Kd.C_alloc ?_ _) | (with_reducible refine Kd.C_drewN ?_ _) | (with_reducible refine Kd.C_drew ?_))); (case side2 => exact HC242_0.out); rintro e w15 ⟨v244, rfl, ho0, hb⟩; refine ⟨_, rfl, ?_⟩; have n0_ := Aside0.mk (Kd.N_elder' (by (with_reducible repeat (first | apply Kd.N_alloc | apply Kd.N_drewN | apply Kd.N_drew)); exact HO_18.out) (Kd.R_base ho0) hb); have n1_ := Aside0.mk (Kd.V_elder' (by (with_reducible repeat (first | apply Kd.V_alloc | apply Kd.V_drewN | apply Kd.V_drew)); exact HL242_0.out) (Kd.R_base ho0) hb); have n2_ := Aside0.mk (Kd.R_lower ho0 (below_size (by repeat (first | (with_reducible first | exact HB.out | apply below_alloc | apply pw_below_drewN | apply below_drew1) | exact HB.out)))); have n3_ := Aside0.mk (Kd.C_below (by repeat (first | (with_reducible exact HR242_0.out) | (with_reducible refine Kd.C_alloc ?_ _) | (with_reducible refine Kd.C_drewN ?_ _) | (with_reducible refine Kd.C_drew ?_) | exact HR242_0.out)) hb); have n4_ := Aside0.mk (below_step (by repeat (first | (with_reducible first | exact HB.out | apply below_alloc | apply pw_below_drewN | apply below_drew1) | exact HB.out)) hb); clear HO_18; clear HL242_0; clear HR242_0; clear HB; have HO_18 := n0_; have HL242_0 := n1_; have HO245 := n2_; have HR242_0 := n3_; have HB := n4_; clear n0_ n1_ n2_ n3_ n4_; (try clear hb); (try clear hb2); (try clear hk); (try clear hi); (try clear ho0); obtain ⟨Ao16, co16, eo16⟩ := Kd.R_slice HO245.out; subst eo16))
        go_roundg k1
        case measure => have := HK1.out; omega
        case rel => exact ⟨(x7_1), (x8_1), (wrap64 (x20_1 + 1)), (by first | rfl | (simp; done) | (simp [*]; done)), (by first | rfl | (simp; done) | (simp [*]; done)), (by first | rfl | (simp; done) | (simp [*]; done)), H', ⟨by have := HK1.out; omega⟩, ⟨by (with_reducible repeat (first | apply Kd.N_alloc | apply Kd.N_drewN | apply Kd.N_drew)); exact Kd.N_mono HO_18.out (fun _ hk => trivial)⟩, ⟨by repeat (first | (with_reducible first | exact HB.out | apply below_alloc | apply pw_below_drewN | apply below_drew1) | exact HB.out)⟩⟩
      ·rw [if_neg c10] at H
       exact absurd H (by simp)
     ·rw [if_neg c9] at H
      exact absurd H (by simp)
    ·rw [if_neg c8] at H
     have c8b0 : decide (x20_1 < (t239.length : Int)) = false := decide_eq_false c8
     clear c8
     simp only [Option.some.injEq, Prod.mk.injEq] at H
     obtain ⟨rfl, rfl, rfl⟩ := H
     go_wp2
     go_ret3
     exact ⟨by first | rfl | (simp [errW_none, errW_some] <;> rfl) | (simp [*, errW_none, errW_some] <;> rfl), by repeat (first | (with_reducible first | exact HB.out | apply below_alloc | apply pw_below_drewN | apply below_drew1) | exact HB.out)⟩
 ·replace c4 := Bool.eq_false_iff.mpr c4
  subst c4
  have H1 : (some (0, 0, false)) = some (r1, r2, r3) := by rw [if_neg (show ¬ (false = true) by decide)] at H; exact H
  clear H
  have H := H1
  clear H1
  simp only [Option.some.injEq, Prod.mk.injEq] at H
  obtain ⟨rfl, rfl, rfl⟩ := H
  go_enter Tryd.func27, Tryd.ntmps27
  go_wp2_with (first | ((with_reducible refine gate_callee (f := 37) rfl ?_); refine goesL_ (some 14) rfl rfl Tryd.func37 (by kernel_rfl) rfl #[.slice A0 l0.length c0, .int .i64 a1] rfl (by (try simp only [List.map_toArray, List.map_cons, List.map_nil]); first | done | rfl | (simp only [List.length_drop, List.length_take]; rfl)) ?_; (with_reducible refine (spec_mlAsked.calls k _ _ l0 a1 false _ ?side1 ?side2 A3.out).mono ?_); (case side1 => repeat (first | exact HR0.out | (with_reducible refine Kd.C_alloc ?_ _) | (with_reducible refine Kd.C_drewN ?_ _) | (with_reducible refine Kd.C_drew ?_))); (case side2 => exact HC0.out); rintro e w' ⟨rfl, ⟨nd, rfl⟩⟩; refine ⟨_, rfl, ?_⟩))
  go_ret3
  exact ⟨by first | rfl | (simp [errW_none, errW_some] <;> rfl) | (simp [*, errW_none, errW_some] <;> rfl), by repeat (first | (with_reducible first | exact HB.out | apply below_alloc | apply pw_below_drewN | apply below_drew1) | exact HB.out)⟩

/-! ### impl_within: function 55 -/
def impl_within.f (a0 : Int) (a1 : Int) (a2 : Int) : Option (Bool) := if a1 ≤ a0 then (some (decide (a0 ≤ a2))) else (some false)
set_option maxHeartbeats 8000000 in
set_option maxRecDepth 100000 in
theorem impl_within.calls (a0 : Int) (a1 : Int) (a2 : Int) (r : Bool) (w : World) (h : impl_within.f a0 a1 a2 = some r) :
  Calls Tryd.prog 55 #[.int .i64 a0, .int .i64 a1, .int .i64 a2] w fun e w' => e = .returned (.bool r) ∧ Drawn0 w w' := by
 have H : (if a1 ≤ a0 then (some (decide (a0 ≤ a2))) else (some false)) = some r := h
 clear h
 by_cases c4 : a1 ≤ a0
 ·rw [if_pos c4] at H
  have c4b0 : decide (a1 ≤ a0) = true := decide_eq_true c4
  clear c4
  obtain rfl := Option.some.inj H
  go_enter Tryd.func55, Tryd.ntmps55
  go_wp2
  go_ret
  exact ⟨by first | rfl | (simp; done) | (simp [*]; done), by repeat (first | exact Drawn0.refl _ | apply Drawn0.step)⟩
 ·rw [if_neg c4] at H
  have c4b0 : decide (a1 ≤ a0) = false := decide_eq_false c4
  clear c4
  obtain rfl := Option.some.inj H
  go_enter Tryd.func55, Tryd.ntmps55
  go_wp2
  go_ret
  exact ⟨by first | rfl | (simp; done) | (simp [*]; done), by repeat (first | exact Drawn0.refl _ | apply Drawn0.step)⟩

/-! ### strings_Trim: function 71 -/
/-! strings.Trim at a cutset of ASCII: the library's own proof, laid at this program's numbers. -/
def trimLays_ren : Go.Shelf.Ren := ⟨fun | 160 => 71 | 232 => 85 | 231 => 84 | 227 => 86 | 234 => 88 | 233 => 87 | 236 => 90 | 235 => 89 | 228 => 106 | 271 => 109 | 151 => 108 | 197 => 107 | 120 => 124 | 152 => 123 | 260 => 122 | 137 => 128 | 119 => 129 | 224 => 112 | 225 => 111 | 217 => 110 | 266 => 125 | n => n, fun | 9 => 9 | 4 => 4 | 3 => 3 | 5 => 5 | 117 => 98 | 116 => 97 | 0 => 0 | 124 => 101 | 21 => 21 | 105 => 116 | 46 => 93 | 119 => 136 | 139 => 139 | 138 => 138 | n => n, fun | 3 => 1 | 4 => 2 | n => n⟩
theorem trimLays : Go.Proofs.Lays.n160 Tryd.prog trimLays_ren := {
  mixed := by kernel_rfl
  f119 := Tryd.func129.trans (congrArg some (by kernel_rfl))
  f120 := Tryd.func124.trans (congrArg some (by kernel_rfl))
  f137 := Tryd.func128.trans (congrArg some (by kernel_rfl))
  f151 := Tryd.func108.trans (congrArg some (by kernel_rfl))
  f152 := Tryd.func123.trans (congrArg some (by kernel_rfl))
  f160 := Tryd.func71.trans (congrArg some (by kernel_rfl))
  f197 := Tryd.func107.trans (congrArg some (by kernel_rfl))
  f217 := Tryd.func110.trans (congrArg some (by kernel_rfl))
  f224 := Tryd.func112.trans (congrArg some (by kernel_rfl))
  f225 := Tryd.func111.trans (congrArg some (by kernel_rfl))
  f227 := Tryd.func86.trans (congrArg some (by kernel_rfl))
  f228 := Tryd.func106.trans (congrArg some (by kernel_rfl))
  f231 := Tryd.func84.trans (congrArg some (by kernel_rfl))
  f232 := Tryd.func85.trans (congrArg some (by kernel_rfl))
  f233 := Tryd.func87.trans (congrArg some (by kernel_rfl))
  f234 := Tryd.func88.trans (congrArg some (by kernel_rfl))
  f235 := Tryd.func89.trans (congrArg some (by kernel_rfl))
  f236 := Tryd.func90.trans (congrArg some (by kernel_rfl))
  f260 := Tryd.func122.trans (congrArg some (by kernel_rfl))
  f266 := Tryd.func125.trans (congrArg some (by kernel_rfl))
  f271 := Tryd.func109.trans (congrArg some (by kernel_rfl))
  t0 := Tryd.underlying0
  a0 := Tryd.isAgg0
  z0 := Tryd.sizeOf0
  v0 := Tryd.zeroValue0
  t3 := Tryd.underlying3
  a3 := Tryd.isAgg3
  z3 := Tryd.sizeOf3
  v3 := Tryd.zeroValue3
  t4 := Tryd.underlying4
  a4 := Tryd.isAgg4
  z4 := Tryd.sizeOf4
  v4 := Tryd.zeroValue4
  t5 := Tryd.underlying5
  a5 := Tryd.isAgg5
  z5 := Tryd.sizeOf5
  v5 := Tryd.zeroValue5
  t9 := Tryd.underlying9
  a9 := Tryd.isAgg9
  z9 := Tryd.sizeOf9
  v9 := Tryd.zeroValue9
  t21 := Tryd.underlying21
  a21 := Tryd.isAgg21
  z21 := Tryd.sizeOf21
  v21 := Tryd.zeroValue21
  t46 := Tryd.underlying93
  a46 := Tryd.isAgg93
  z46 := Tryd.sizeOf93
  v46 := Tryd.zeroValue93
  t105 := Tryd.underlying116
  a105 := Tryd.isAgg116
  z105 := Tryd.sizeOf116
  v105 := Tryd.zeroValue116
  t116 := Tryd.underlying97
  a116 := Tryd.isAgg97
  z116 := Tryd.sizeOf97
  t117 := Tryd.underlying98
  a117 := Tryd.isAgg98
  z117 := Tryd.sizeOf98
  v117 := Tryd.zeroValue98
  t119 := Tryd.underlying136
  a119 := Tryd.isAgg136
  z119 := Tryd.sizeOf136
  t124 := Tryd.underlying101
  a124 := Tryd.isAgg101
  z124 := Tryd.sizeOf101
  v124 := Tryd.zeroValue101
  t138 := Tryd.underlying138
  a138 := Tryd.isAgg138
  z138 := Tryd.sizeOf138
  v138 := Tryd.zeroValue138
  t139 := Tryd.underlying139
  a139 := Tryd.isAgg139
  z139 := Tryd.sizeOf139
  v139 := Tryd.zeroValue139
  g3 := by kernel_rfl
  g4 := by kernel_rfl }
def strings_Trim.f (l0 l1 : ByteArray) : Option ByteArray :=
 if l0.size ≤ 1099511627776 ∧ l1.size ≤ 1048576 ∧ l1.data.toList.all (fun b => decide (b.toNat < 128)) = true then some ⟨(Lib.trimS l0.data.toList l1.data.toList).toArray⟩ else none
theorem strings_Trim.calls (l0 l1 : ByteArray) (r : ByteArray) (w : World) (h : strings_Trim.f l0 l1 = some r) :
  Calls Tryd.prog 71 #[.string l0, .string l1] w fun e w' => e = .returned (.string r) ∧ Below w.heap.size w w' := by
 unfold strings_Trim.f at h
 split at h
 ·rename_i g
  obtain rfl := Option.some.inj h
  exact Any.strings_Trim_laid trimLays (by kernel_rfl) l0 l1 w (by omega) (by omega) (ascii_of_all g.2.2)
 ·cases h

/-! ### impl_areRows: function 52 -/
/-- What is asked of a predicate on texts: in every world in which what lay in w lies unturned, the call answers p at each text of a list. -/
def PredStr (g : Nat) (lb : Array Value) (p : ByteArray → Bool) (xs : List ByteArray) (w : World) : Prop :=
 ∀ (W : World) (x : ByteArray), x ∈ xs → Below w.heap.size w W → Calls Tryd.prog g (#[.string x] ++ lb) W fun e w' => e = .returned (.bool (p x)) ∧ Below w.heap.size w w'
def idxOfS (p : ByteArray → Bool) (xs : List ByteArray) : Int := if xs.any p then (xs.findIdx p : Int) else -1
theorem rdS_get (xs : List ByteArray) (j : Nat) (hj : j < xs.length) : rdOf ByteArray.empty xs (j : Int) = xs[j] := by
 simp [rdOf, List.getD_eq_getElem?_getD, List.getElem?_eq_getElem hj]
theorem idxOfS_hit (p : ByteArray → Bool) (xs : List ByteArray) (k : Nat) (hk : k < xs.length) (h : p (rdOf ByteArray.empty xs k) = true) (hb : ∀ j : Nat, j < k → p (rdOf ByteArray.empty xs j) = false) : idxOfS p xs = k := by
 have h1 : xs.findIdx p = k := by
  rw [List.findIdx_eq hk]
  exact ⟨by rw [← rdS_get xs k hk]; exact h, fun j hj => by rw [← rdS_get xs j (by omega)]; exact hb j hj⟩
 have h2 : xs.any p = true := by
  rw [List.any_eq_true]
  exact ⟨xs[k], List.getElem_mem hk, by rw [← rdS_get xs k hk]; exact h⟩
 unfold idxOfS
 rw [if_pos h2, h1]
theorem idxOfS_miss (p : ByteArray → Bool) (xs : List ByteArray) (hb : ∀ j : Nat, j < xs.length → p (rdOf ByteArray.empty xs j) = false) : xs.any p = false ∧ idxOfS p xs = -1 := by
 have h2 : xs.any p = false := by
  rw [List.any_eq_false]
  intro x hx
  obtain ⟨j, hj, rfl⟩ := List.getElem_of_mem hx
  have := hb j hj
  rw [rdS_get xs j hj] at this
  simp [this]
 exact ⟨h2, by unfold idxOfS; rw [if_neg (by simp [h2])]⟩
set_option maxHeartbeats 2000000 in
theorem indexFunc_str (g : Nat) (lb : Array Value) (p : ByteArray → Bool) (eg : ∀ args w, (callFunc g args).run Tryd.prog w = .ok (.enter g args) w) (A0 : Option Addr) (c0 : Nat) (xs : List ByteArray) (w : World)
  (hp : PredStr g lb p xs w) (hr : Kd.string.C w A0 xs.length xs) :
  Calls Tryd.prog 83 #[.slice A0 xs.length c0, .func (.func g) #[] lb] w fun e w' => e = .returned (.int .i64 (idxOfS p xs)) ∧ Below w.heap.size w w' := by
 have HR := Aside0.mk hr
 have HP := Aside0.mk hp
 have hm : xs.length ≤ 9223372036854775807 := hr.2.1
 clear hr hp
 go_enter Tryd.func83, Tryd.ntmps83
 go_wp2
 go_loopg [5, 8] xs.length (fun gg _ s8 wr => ∃ kk : Nat, kk ≤ xs.length ∧ xs.length - kk ≤ gg ∧ s8 = .int .i64 kk ∧ Aside0 (Below w.heap.size w wr) ∧ Aside0 (∀ j : Nat, j < kk → p (rdOf ByteArray.empty xs j) = false))
 case atStart => exact ⟨0, Nat.zero_le _, by omega, rfl, ⟨Below.refl _ w⟩, ⟨fun j hj => absurd hj (Nat.not_lt_zero _)⟩⟩
 case round =>
  obtain ⟨kk, hkk, hg, rfl, HB, HN⟩ := hrel
  by_cases hlt : kk < xs.length
  ·have q1 : (kk : Int) < (xs.length : Int) := by omega
   have p1 : 0 ≤ (kk : Int) := by omega
   obtain ⟨ad, e1, hx⟩ := Kd.at_string (Kd.C_below HR.out HB.out) (kk : Int) p1 q1
   cases e1
   simp only [Int.toNat_natCast] at hx
   have hcall := HP.out wr (rdOf ByteArray.empty xs kk) (by rw [rdS_get xs kk hlt]; exact List.getElem_mem hlt) HB.out
   replace p1 := eq_true p1
   replace q1 := eq_true q1
   cases hq : p (rdOf ByteArray.empty xs kk) with
   | true =>
    rw [hq] at hcall
    have HQ := Aside0.mk hq
    clear hq
    go_wp2_with (go_at_fn g; (with_reducible refine hcall.mono ?_); rintro e w' ⟨rfl, hb'⟩)
    go_ret
    exact ⟨by rw [idxOfS_hit p xs kk hlt HQ.out HN.out]; rfl, hb'⟩
   | false =>
    rw [hq] at hcall
    have HQ := Aside0.mk hq
    clear hq
    go_wp2_with (go_at_fn g; (with_reducible refine hcall.mono ?_); rintro e w' ⟨rfl, hb'⟩)
    go_roundg (xs.length - (kk + 1))
    case measure => omega
    case rel =>
     refine ⟨kk + 1, by omega, by omega, by go_num, ⟨hb'⟩, ⟨fun j hj => ?_⟩⟩
     by_cases e : j = kk
     ·subst e
      exact HQ.out
     ·exact HN.out j (by omega)
  ·have q1 : ¬ (kk : Int) < (xs.length : Int) := by omega
   have e1 : kk = xs.length := by omega
   have HQ := Aside0.mk e1
   clear e1
   go_wp2
   go_ret
   exact ⟨by rw [(idxOfS_miss p xs (fun j hj => HN.out j (by have := HQ.out; omega))).2]; rfl, HB.out⟩
theorem containsFunc_str (g : Nat) (lb : Array Value) (p : ByteArray → Bool) (eg : ∀ args w, (callFunc g args).run Tryd.prog w = .ok (.enter g args) w) (A0 : Option Addr) (c0 : Nat) (xs : List ByteArray) (w : World)
  (hp : PredStr g lb p xs w) (hr : Kd.string.C w A0 xs.length xs) :
  Calls Tryd.prog 69 #[.slice A0 xs.length c0, .func (.func g) #[] lb] w fun e w' => e = .returned (.bool (xs.any p)) ∧ Below w.heap.size w w' := by
 have HI := Aside0.mk (indexFunc_str g lb p eg A0 c0 xs w hp hr)
 have hz : decide (idxOfS p xs ≥ 0) = xs.any p := by
  unfold idxOfS
  cases h : xs.any p <;> simp
 clear hp hr
 have HZ := Aside0.mk hz
 clear hz
 go_enter Tryd.func69, Tryd.ntmps69
 go_wp2_with (go_at_call 83; (with_reducible refine HI.out.mono ?_); rintro e w' ⟨rfl, hb⟩)
 go_ret
 exact ⟨by rw [← HZ.out]; rfl, hb⟩
theorem within_dec (a b c : Int) : impl_within.f a b c = some (decide (b ≤ a ∧ a ≤ c)) := by
 unfold impl_within.f
 by_cases h : b ≤ a
 ·rw [if_pos h]; simp [h]
 ·rw [if_neg h]; simp [h]
/-- Is a row of another length than the first one, or too long, or with other signs? -/
def badRow (n0 : Nat) (most : Int) (signs : ByteArray) (x : ByteArray) : Bool :=
 !decide (x.size = n0) || (!decide (1 ≤ (x.size : Int) ∧ (x.size : Int) ≤ most) || !((⟨(Lib.trimS x.data.toList signs.data.toList).toArray⟩ : ByteArray)).toList.isEmpty)
set_option maxHeartbeats 2000000 in
set_option maxRecDepth 100000 in
theorem areRows_pred (A0 : Option Addr) (c0 : Nat) (l0 : List ByteArray) (a1 : Int) (a2 x : ByteArray) (b1 b2 b3 : Nat) (W : World) (h1 : W.cell? ⟨b1, 0, none⟩ = some (.slice A0 l0.length c0)) (h2 : W.cell? ⟨b2, 0, none⟩ = some (.int .i64 a1)) (h3 : W.cell? ⟨b3, 0, none⟩ = some (.string a2))
  (hr : Kd.string.C W A0 l0.length l0) (h0 : 0 < l0.length) (hm : a1 ≤ 1099511627776) (hs : a2.size ≤ 1048576) (ha : a2.data.toList.all (fun b => decide (b.toNat < 128)) = true) :
  Calls Tryd.prog 70 #[.string x, .pointer (some ⟨b1, 0, none⟩), .pointer (some ⟨b2, 0, none⟩), .pointer (some ⟨b3, 0, none⟩)] W fun e w' => e = .returned (.bool (badRow (rdOf ByteArray.empty l0 0).size a1 a2 x)) ∧ Below W.heap.size W w' := by
 obtain ⟨n0, hn0⟩ : ∃ n0, n0 = (rdOf ByteArray.empty l0 0).size := ⟨_, rfl⟩
 obtain ⟨y0, hy0⟩ : ∃ y0, y0 = rdOf ByteArray.empty l0 0 := ⟨_, rfl⟩
 have p1 : (0 : Int) ≤ (0 : Int) := by omega
 have q1 : (0 : Int) < (l0.length : Int) := by omega
 obtain ⟨ad, e1, hx⟩ := Kd.at_string hr (0 : Int) p1 q1
 subst e1
 rw [← hy0] at hx hn0
 rw [← hy0, ← hn0]
 replace hx : W.cell? (ad.add 0) = some (.string y0) := hx
 rw [show ad.add 0 = ad by cases ad; simp [Addr.add]] at hx
 clear hy0 hr
 by_cases c1 : x.size = n0
 ·have c1a : ((x.size : Int) == (y0.size : Int)) = true := by rw [beq_iff_eq]; omega
  have c1c : ((x.size : Int) != (y0.size : Int)) = false := by rw [bne_eq_false_iff_eq]; omega
  have c1b : (x.size == y0.size) = true := by rw [beq_iff_eq]; omega
  have HC1 := Aside0.mk c1
  have HW := Aside0.mk (within_dec (x.size : Int) 1 a1)
  by_cases c2 : 1 ≤ (x.size : Int) ∧ (x.size : Int) ≤ a1
  ·have HT := Aside0.mk (show strings_Trim.f x a2 = some ⟨(Lib.trimS x.data.toList a2.data.toList).toArray⟩ by unfold strings_Trim.f; rw [if_pos ⟨by omega, hs, ha⟩])
   have HB2 := Aside0.mk (show badRow n0 a1 a2 x = !((⟨(Lib.trimS x.data.toList a2.data.toList).toArray⟩ : ByteArray)).toList.isEmpty by unfold badRow; rw [decide_eq_true c1, decide_eq_true c2]; rfl)
   rw [decide_eq_true c2] at HW
   obtain ⟨z, hz⟩ : ∃ z : ByteArray, z = ⟨(Lib.trimS x.data.toList a2.data.toList).toArray⟩ := ⟨_, rfl⟩
   rw [← hz] at HT HB2
   clear hz c1 c2 hn0 ha hs hm
   go_enter Tryd.func70, Tryd.ntmps70
   go_wp2_with (first | (go_at_call 55; (with_reducible refine (impl_within.calls _ _ _ true _ HW.out).mono ?_); rintro e w' ⟨rfl, ⟨nd, rfl⟩⟩) | (go_at_call 71; (with_reducible refine (strings_Trim.calls _ _ _ _ HT.out).mono ?_); rintro e w' ⟨rfl, hd2⟩))
   go_ret
   exact ⟨by rw [HB2.out]; rfl, (pw_below_drewN (Below.refl _ _) nd).trans (hd2.mono (Nat.le_refl _))⟩
  ·have HB2 := Aside0.mk (show badRow n0 a1 a2 x = true by unfold badRow; rw [decide_eq_true c1, decide_eq_false c2]; rfl)
   rw [decide_eq_false c2] at HW
   clear c1 c2 hn0 ha hs hm
   go_enter Tryd.func70, Tryd.ntmps70
   go_wp2_with (first | (go_at_call 55; (with_reducible refine (impl_within.calls _ _ _ false _ HW.out).mono ?_); rintro e w' ⟨rfl, ⟨nd, rfl⟩⟩))
   go_ret
   exact ⟨by rw [HB2.out]; rfl, pw_below_drewN (Below.refl _ _) nd⟩
 ·have c1a : ((x.size : Int) == (y0.size : Int)) = false := by rw [beq_eq_false_iff_ne]; omega
  have c1c : ((x.size : Int) != (y0.size : Int)) = true := by rw [bne_iff_ne]; omega
  have c1b : (x.size == y0.size) = false := by rw [beq_eq_false_iff_ne]; omega
  have HB2 := Aside0.mk (show badRow n0 a1 a2 x = true by unfold badRow; rw [decide_eq_false c1]; rfl)
  clear c1 hn0 ha hs hm
  go_enter Tryd.func70, Tryd.ntmps70
  go_wp2
  go_ret
  exact ⟨by rw [HB2.out]; rfl, Below.refl _ _⟩
def impl_areRows.f (l0 : List ByteArray) (a1 : Int) (a2 : ByteArray) : Option (Bool) :=
 if a1 ≤ 1099511627776 ∧ a2.size ≤ 1048576 ∧ a2.data.toList.all (fun b => decide (b.toNat < 128)) = true then some (decide (1 ≤ (l0.length : Int) ∧ (l0.length : Int) ≤ a1) && !l0.any (badRow (rdOf ByteArray.empty l0 0).size a1 a2)) else none
set_option maxHeartbeats 2000000 in
theorem impl_areRows.calls (A0 : Option Addr) (c0 : Nat) (l0 : List ByteArray) (a1 : Int) (a2 : ByteArray) (r : Bool) (w : World) (hr0 : Kd.string.C w A0 l0.length l0) (hc0 : l0.length ≤ c0) (h : impl_areRows.f l0 a1 a2 = some r) :
  Calls Tryd.prog 52 #[.slice A0 l0.length c0, .int .i64 a1, .string a2] w fun e w' => e = .returned (.bool r) ∧ Below w.heap.size w w' := by
 unfold impl_areRows.f at h
 split at h
 case isFalse => cases h
 case isTrue g =>
 obtain ⟨q, hq⟩ : ∃ q, q = l0.any (badRow (rdOf ByteArray.empty l0 0).size a1 a2) := ⟨_, rfl⟩
 rw [← hq] at h
 have h := Option.some.inj h
 have hb0 : Below w.heap.size w (((w.alloc (.cells #[.slice A0 l0.length c0] 22)).alloc (.cells #[.int .i64 a1] 3)).alloc (.cells #[.string a2] 9)) := (((Below.refl _ w).alloc (Nat.le_refl _) _).alloc (by simp) _).alloc (by simp; omega) _
 have hw := within_dec (l0.length : Int) 1 a1
 by_cases c : 1 ≤ (l0.length : Int) ∧ (l0.length : Int) ≤ a1
 ·have hd1 : ((w.alloc (.cells #[.slice A0 l0.length c0] 22)).alloc (.cells #[.int .i64 a1] 3)).cell? ⟨w.heap.size, 0, none⟩ = some (.slice A0 l0.length c0) := by simp
  have hd2 : ((w.alloc (.cells #[.slice A0 l0.length c0] 22)).alloc (.cells #[.int .i64 a1] 3)).cell? ⟨w.heap.size + 1, 0, none⟩ = some (.int .i64 a1) := by simp
  have hds : ((w.alloc (.cells #[.slice A0 l0.length c0] 22)).alloc (.cells #[.int .i64 a1] 3)).heap.size = w.heap.size + 2 := by simp
  obtain ⟨w3, hw3⟩ : ∃ w3, w3 = (((w.alloc (.cells #[.slice A0 l0.length c0] 22)).alloc (.cells #[.int .i64 a1] 3)).alloc (.cells #[.string a2] 9)) := ⟨_, rfl⟩
  rw [← hw3] at hb0
  obtain ⟨w2, hw2⟩ : ∃ w2, w2 = ((w.alloc (.cells #[.slice A0 l0.length c0] 22)).alloc (.cells #[.int .i64 a1] 3)) := ⟨_, rfl⟩
  have hw3' : w3 = w2.alloc (.cells #[.string a2] 9) := by rw [hw3, hw2]
  rw [← hw2] at hd1 hd2 hds
  have hB23 : Below w2.heap.size w2 w3 := by rw [hw3']; exact (Below.refl _ _).alloc (Nat.le_refl _) _
  have hc1 : w3.cell? ⟨w.heap.size, 0, none⟩ = some (.slice A0 l0.length c0) := (hB23.cell (p := ⟨w.heap.size, 0, none⟩) (by show w.heap.size < _; omega)).trans hd1
  have hc2 : w3.cell? ⟨w.heap.size + 1, 0, none⟩ = some (.int .i64 a1) := (hB23.cell (p := ⟨w.heap.size + 1, 0, none⟩) (by show w.heap.size + 1 < _; omega)).trans hd2
  have hc3 : w3.cell? ⟨w.heap.size + 2, 0, none⟩ = some (.string a2) := by rw [hw3', ← hds]; simp
  have hs : w3.heap.size = w.heap.size + 3 := by rw [hw3']; simp; omega
  clear hd1 hd2 hds hw2 hw3' hB23
  have HC : ∀ W : World, Below w3.heap.size w3 W → Calls Tryd.prog 69 #[.slice A0 l0.length c0, .func (.func 70) #[] #[.pointer (some ⟨w.heap.size, 0, none⟩), .pointer (some ⟨w.heap.size + 1, 0, none⟩), .pointer (some ⟨w.heap.size + 2, 0, none⟩)]] W fun e w' => e = .returned (.bool q) ∧ Below w.heap.size w w' := by
   intro W hW
   have hz := hW.size
   have hrW := Kd.C_below (Kd.C_below hr0 hb0) (hW.mono (by omega))
   have := containsFunc_str 70 #[.pointer (some ⟨w.heap.size, 0, none⟩), .pointer (some ⟨w.heap.size + 1, 0, none⟩), .pointer (some ⟨w.heap.size + 2, 0, none⟩)] (badRow (rdOf ByteArray.empty l0 0).size a1 a2) (enters_of Tryd.func70 (by kernel_rfl) rfl) A0 c0 l0 W
    (fun W2 x hx hW2 => by
     have hz2 := hW2.size
     refine (areRows_pred A0 c0 l0 a1 a2 x _ _ _ W2 ((hW2.cell (p := ⟨w.heap.size, 0, none⟩) (by show w.heap.size < _; omega)).trans ((hW.cell (p := ⟨w.heap.size, 0, none⟩) (by show w.heap.size < _; omega)).trans hc1))
      ((hW2.cell (p := ⟨w.heap.size + 1, 0, none⟩) (by show w.heap.size + 1 < _; omega)).trans ((hW.cell (p := ⟨w.heap.size + 1, 0, none⟩) (by show w.heap.size + 1 < _; omega)).trans hc2))
      ((hW2.cell (p := ⟨w.heap.size + 2, 0, none⟩) (by show w.heap.size + 2 < _; omega)).trans ((hW.cell (p := ⟨w.heap.size + 2, 0, none⟩) (by show w.heap.size + 2 < _; omega)).trans hc3))
      (Kd.C_below hrW hW2) (by omega) g.1 g.2.1 g.2.2).mono ?_
     rintro e w' ⟨rfl, hd⟩
     exact ⟨rfl, hW2.trans (hd.mono hz2)⟩) hrW
   rw [← hq] at this
   refine this.mono ?_
   rintro e w' ⟨rfl, hb⟩
   exact ⟨rfl, hb0.trans ((hW.mono (by omega)).trans (hb.mono (by omega)))⟩
  rw [hw3] at HC
  have HCC := Aside0.mk HC
  have HH := Aside0.mk (show r = !q by rw [← h, decide_eq_true c]; rfl)
  rw [decide_eq_true c] at hw
  have HW := Aside0.mk hw
  clear HC hc1 hc2 hc3 hs hw h hq hb0 hr0 hw3 g c
  go_enter Tryd.func52, Tryd.ntmps52
  go_wp2_with (first | (go_at_call 55; (with_reducible refine (impl_within.calls _ _ _ true _ HW.out).mono ?_); rintro e w' ⟨rfl, ⟨nd, rfl⟩⟩) | (go_at_call 69; (with_reducible refine (HCC.out _ (pw_below_drewN (Below.refl _ _) nd)).mono ?_); rintro e w' ⟨rfl, hb⟩))
  go_ret
  exact ⟨by rw [HH.out]; rfl, hb⟩
 ·rw [decide_eq_false c] at hw h
  have HW := Aside0.mk hw
  have HB := Aside0.mk hb0
  obtain rfl : false = r := h
  clear hw h hq hb0 hr0 g c
  go_enter Tryd.func52, Tryd.ntmps52
  go_wp2_with (first | (go_at_call 55; (with_reducible refine (impl_within.calls _ _ _ false _ HW.out).mono ?_); rintro e w' ⟨rfl, ⟨nd, rfl⟩⟩))
  go_ret
  exact ⟨rfl, pw_below_drewN HB.out nd⟩

end Go.Proofs.YtaocnjaeaiacmaaDoor.G
