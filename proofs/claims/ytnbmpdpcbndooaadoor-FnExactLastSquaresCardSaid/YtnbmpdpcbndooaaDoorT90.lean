import Derived.Test.YtnbmpdpcbndooaaDoorT0
import Derived.Test.YtnbmpdpcbndooaaDoorT1
import Derived.Test.YtnbmpdpcbndooaaDoorT2
import Derived.Test.YtnbmpdpcbndooaaDoorT10
import Derived.Test.YtnbmpdpcbndooaaDoorT13
import Derived.Test.YtnbmpdpcbndooaaDoorT15
import Derived.Test.YtnbmpdpcbndooaaDoorT16
import Derived.Test.YtnbmpdpcbndooaaDoorT17
namespace Go.Proofs.YtnbmpdpcbndooaaDoor.T
open Go.RowKit Go.Proofs.YtnbmpdpcbndooaaDoorW.PrintWords Go.Proofs.YtnbmpdpcbndooaaDoorW.PrintLast Go.Proofs.YtnbmpdpcbndooaaDoorW.PrintMore
attribute [local go_sem] max2_int min2_int max_two min_two max_three min_three max_four min_four bne_self_eq_false
set_option linter.unusedVariables false
set_option linter.unusedSimpArgs false
/-! ### rows of whole numbers that differ lie apart -/
theorem rows_apart {w : World} {base : Nat} {ok : Nat → Prop} {v : Value} {xs : List (List Int)} (h : Kd.R (Kd.slice 3 (Kd.int .i64)) 34 w base ok v xs) (hl : ∀ x ∈ xs, x.length = 2) (hd : xs.Nodup) : Kd.S (Kd.slice 3 (Kd.int .i64)) 34 w base ok v xs := by
  obtain ⟨h0, inner, ho, hr⟩ := h
  have key : ∀ (j : Nat) (x : List Int), xs[j]? = some x → ∃ g cap cur, (inner.drop (j * 1)).take 1 = [.slice (some ⟨g, 0, none⟩) x.length cap] ∧ w.heap[g]? = some (.cells cur 3 (0, 0)) ∧ (cur.toList.take x.length) = encs (Value.int .i64) x := by
    intro j x hx
    obtain ⟨u, hu, hR⟩ := hr.2 j x hx
    have hx2 : x.length = 2 := hl x (List.mem_of_getElem? hx)
    have hown := Kd.own_of_R hR
    rcases hown.2 with ⟨_, h0⟩ | ⟨g, cap, cur, rfl, hg, hh, _, _, _, htake⟩
    · omega
    · rw [Nat.mul_one] at htake
      exact ⟨g, cap, cur, hu, hh, htake⟩
  have hblk : ∀ (j : Nat) (x : List Int) (g cap : Nat), xs[j]? = some x → (inner.drop (j * 1)).take 1 = [.slice (some ⟨g, 0, none⟩) x.length cap] → ∀ cur, w.heap[g]? = some (.cells cur 3 (0, 0)) → cur.toList.take x.length = encs (Value.int .i64) x := by
    intro j x g cap hx hc cur hh
    obtain ⟨g', cap', cur', h1, h2, h3⟩ := key j x hx
    rw [hc] at h1
    injection h1 with h1 _
    injection h1 with h1 _ _
    injection h1 with h1
    injection h1 with h1 _ _
    subst h1
    rw [hh] at h2
    injection h2 with h2
    injection h2 with h2 _ _
    subst h2
    exact h3
  have hrep := Kd.reps_tag (d := Kd.slice 3 (Kd.int .i64)) (w := w) (base := base) (ok := fun k => ok k ∧ some k ≠ v.ownBlock) (xs := xs) (inner := inner)
    (fun j k => (ok k ∧ some k ≠ v.ownBlock) ∧ ∃ x cap, xs[j]? = some x ∧ (inner.drop (j * 1)).take 1 = [.slice (some ⟨k, 0, none⟩) x.length cap])
    (fun i j k hi hj => by
      obtain ⟨_, x, cap, hx, hc⟩ := hi
      obtain ⟨_, y, cap', hy, hc'⟩ := hj
      obtain ⟨g, c2, cur, e1, e2, e3⟩ := key i x hx
      rw [hc] at e1
      injection e1 with e1 _
      injection e1 with e1 _ _
      injection e1 with e1
      injection e1 with e1 _ _
      subst e1
      have hy2 := hblk j y k cap' hy hc' cur e2
      have hx2 := hblk i x k cap hx hc cur e2
      rw [hl x (List.mem_of_getElem? hx)] at hx2
      rw [hl y (List.mem_of_getElem? hy)] at hy2
      have hxy : x = y := by
        have he := hx2.symm.trans hy2
        unfold encs at he
        exact List.map_inj_right (fun a b hab => by injection hab) |>.1 he
      subst hxy
      exact (List.getElem?_inj (List.getElem?_eq_some_iff.1 hx).1 hd).1 (hx.trans hy.symm))
    (fun j k hk => hk.1) hr.1
    (fun j x hx => by
      obtain ⟨u, hu, hR⟩ := hr.2 j x hx
      obtain ⟨g, cap, cur, e1, _, _⟩ := key j x hx
      have hu2 : u = .slice (some ⟨g, 0, none⟩) x.length cap := by
        have := hu.symm.trans e1
        injection this
      subst hu2
      refine ⟨_, hu, Kd.R_mono (Kd.R_tight rfl hR) (fun k hkk => ?_)⟩
      refine ⟨hR.1 k hkk.symm, x, cap, hx, ?_⟩
      have : k = g := by simpa [Value.ownBlock] using hkk
      subst this
      exact e1)
  obtain ⟨f, hf⟩ := hrep
  exact ⟨f, h0, inner, by rw [List.length_zipIdx]; exact ho, hf⟩
/-! ### marks in rows of rows -/
def laws_markIntSS.l0 : Nat → List (List Int) → Int → Int → Option (Int × List (List Int))
  | 0, _, _, _ => none
  | k + 1, x0, x1, x5 => if x5 < (x0.length : Int) then (if 0 ≤ x5 then ((laws_markIntS.f k (rd_L5 x0 x5) x1).bind fun bt => laws_markIntSS.l0 k (x0.set x5.toNat bt.2) bt.1 (wrap64 (x5 + 1))) else none) else some (x1, x0)
def laws_markIntSS.f (k : Nat) (l0 : List (List Int)) (a1 : Int) : Option (Int × List (List Int)) := laws_markIntSS.l0 k l0 a1 0
set_option maxHeartbeats 4000000 in
theorem laws_markIntSS.calls (k : Nat) (P0_ : Nat → Prop) (u9000_ : Value) (l0 : List (List Int)) (a1 : Int) (r1 : Int) (r2 : List (List Int)) (w0 w : World) (hB : Below w0.heap.size w0 w) (ho0 : Kd.S (Kd.slice 3 (Kd.int .i64)) 34 w w0.heap.size P0_ u9000_ l0) (h : laws_markIntSS.f k l0 a1 = some (r1, r2)) :
    Calls Tryd.prog 33 #[u9000_, .int .i64 a1] w fun e w' => e = .returned (.int .i64 r1) ∧ Kd.S (Kd.slice 3 (Kd.int .i64)) 34 w' w0.heap.size P0_ u9000_ r2 ∧ Below w0.heap.size w0 w' ∧ Kept w w' (fun k_ => P0_ k_) := by
  obtain ⟨A0, c0, e0⟩ := Kd.S_slice ho0
  subst e0
  have HS := Aside0.mk ho0
  have HB := Aside0.mk hB
  have HL := Aside0.mk (show laws_markIntSS.l0 k l0 a1 0 = some (r1, r2) from h)
  clear ho0 hB h
  go_enter Tryd.func33, Tryd.ntmps33
  go_wp2
  go_loopg [1, 5] k (fun kq v1 v5 wr => ∃ (x1 x5 : Int) (xs : List (List Int)), v1 = .int .i64 x1 ∧ v5 = .int .i64 x5 ∧ xs.length = l0.length ∧ Aside0 (laws_markIntSS.l0 kq xs x1 x5 = some (r1, r2)) ∧ Aside0 (kq ≤ k) ∧ Aside0 (Kd.S (Kd.slice 3 (Kd.int .i64)) 34 wr w0.heap.size P0_ (.slice A0 l0.length c0) xs) ∧ Aside0 (Below w0.heap.size w0 wr) ∧ Aside0 (Kept w wr (fun k_ => P0_ k_)))
  case atStart => exact ⟨a1, 0, l0, rfl, rfl, rfl, HL, ⟨Nat.le_refl _⟩, HS, HB, ⟨Kept.refl _ _⟩⟩
  case round =>
    clear HL HS HB
    obtain ⟨x1, x5, xs, rfl, rfl, hxl, HL, HK, HS, HB, HKP⟩ := hrel
    cases gk with
    | zero => exact absurd HL.out (by simp [laws_markIntSS.l0])
    | succ k1 =>
      have H := HL.out
      clear HL
      simp only [laws_markIntSS.l0] at H
      rw [hxl] at H
      by_cases c3 : x5 < (l0.length : Int)
      · rw [if_pos c3] at H
        by_cases c4 : 0 ≤ x5
        · rw [if_pos c4] at H
          obtain ⟨⟨y1, ys⟩, hm, H⟩ := Option.bind_eq_some_iff.mp H
          have HM := Aside0.mk hm
          have HN := Aside0.mk H
          clear hm H
          obtain ⟨g, cap, e1, _⟩ := Kd.S_form HS.out (by omega)
          obtain ⟨ad, had⟩ : ∃ ad, ad = (⟨g, 0, none⟩ : Addr) := ⟨_, rfl⟩
          rw [← had] at e1
          obtain ⟨rfl, rfl⟩ : A0 = some ad ∧ c0 = cap := by injection e1 with e1 e2 e3; exact ⟨e1, e3⟩
          clear e1
          have hS2 := HS.out
          rw [had] at hS2
          obtain ⟨oki, c, hcl, hM, hcell, hoki, hH⟩ := Kd.S_lend hS2 ([] : List Int) x5 c4 c3
          clear hS2
          obtain ⟨v, rfl, hR⟩ := hM
          have hx := hcell 0 v rfl
          have hx2 : wr.cell? (ad.add x5.toNat) = some v := by
            rw [had]
            have this : (⟨g, 0, none⟩ : Addr).add x5.toNat = ⟨g, x5.toNat * (Kd.slice 3 (Kd.int .i64)).sz + 0, none⟩ := by
              rw [add_at, Nat.zero_add, Nat.add_zero, show (Kd.slice 3 (Kd.int .i64)).sz = 1 from rfl, Nat.mul_one]
            rw [this]
            exact hx
          rw [← had] at hH
          clear hx hcell
          clear had
          have HRI := Aside0.mk (show Kd.R (Kd.int .i64) 3 wr w0.heap.size oki v (rd_L5 xs x5) from hR)
          have HHH := Aside0.mk hH
          have HOK := Aside0.mk hoki
          have p5 := eq_true c4
          have q5 := eq_true c3
          clear hR hH hoki
          obtain ⟨Av, cv, ev⟩ := Kd.R_slice HRI.out
          subst ev
          go_wp2_with (go_at_call 26; (with_reducible refine (laws_markIntS.calls k1 oki _ (rd_L5 xs x5) x1 y1 ys w0 _ HB.out HRI.out HM.out).mono ?_); rintro e w2 ⟨rfl, hy0, hb, hkp⟩)
          have HS2 := Aside0.mk (Kd.S_mono (Kd.H_back (okp := fun k_ => oki k_) (Kd.H_step HHH.out (fun k_ hk_ hn_ hl_ => hkp.2 k_ hl_ hn_)) (x' := ys) ⟨_, rfl, Kd.R_reok rfl hy0 (fun k_ e_ => HRI.out.1 k_ e_)⟩ (fun _ h => h)) (fun _ h => h))
          go_roundg k1
          case measure => have := HK.out; omega
          case rel => exact ⟨y1, _, _, rfl, rfl, by rw [List.length_set]; exact hxl, HN, ⟨by have := HK.out; omega⟩, HS2, ⟨hb⟩, ⟨⟨Nat.le_trans HKP.out.1 hkp.1, fun i hi hn => (hkp.2 i (Nat.lt_of_lt_of_le hi HKP.out.1) (fun h => hn (HOK.out i h).1)).trans (HKP.out.2 i hi hn)⟩⟩⟩
        · rw [if_neg c4] at H
          cases H
      · rw [if_neg c3] at H
        have c3b0 := decide_eq_false c3
        obtain ⟨rfl, rfl⟩ : x1 = r1 ∧ xs = r2 := by have := Option.some.inj H; simpa using this
        go_wp2
        go_ret
        exact ⟨rfl, HS.out, HB.out, HKP.out⟩
/-- What is to be known of the plain functions. -/
def laws_FnExactLastSquares.Ok (k : Nat) (l0 : List ByteArray) (a1 : Int) : Prop := ∃ t, laws_szStringS.f k l0 1048576 = some t ∧ (t < 0 ∨ ¬ t < 0 ∧ ∃ (g : List (List Int)) (b : Bool) (m0 : Int) (x1 : List ByteArray) (m : Int) (g1 : List (List Int)),
  (∀ x ∈ g, x.length = 2) ∧ g.Nodup ∧ laws_toStringS.f k l0 = some l0 ∧ spec_LastSquares.f k l0 a1 = some (g, b) ∧ impl_LastSquares.f k l0 a1 = some (g, b) ∧ laws_eqIntSS.f k g g = some true ∧ laws_eqStringS.f k l0 l0 = some true ∧ laws_markStringS.f k l0 1 = some (m0, x1) ∧ ¬ m0 < 0 ∧ laws_markIntSS.f k g 1 = some (m, g1) ∧ laws_heldIntSS.f k g1 1 = some m ∧ ¬ m < 0)
set_option maxHeartbeats 8000000 in
set_option maxRecDepth 100000 in
theorem laws_FnExactLastSquares.calls (k : Nat) (A0 : Option Addr) (c0 : Nat) (l0 : List ByteArray) (a1 : Int) (w : World) (hr0 : Kd.C Kd.string w A0 l0.length l0) (hc0 : l0.length ≤ c0) (h : laws_FnExactLastSquares.Ok k l0 a1) :
    Calls Tryd.prog 9 #[.slice A0 l0.length c0, .int .i64 a1] w fun e w' => e = .returned (.bool true) ∧ Below w.heap.size w w' := by
  obtain ⟨t, hsz, h⟩ := h
  have HR0 := Aside0.mk hr0
  have HC0 := Aside0.mk hc0
  have HSZ := Aside0.mk hsz
  clear hr0 hc0 hsz
  have HB := Aside0.mk (Below.refl w.heap.size w)
  rcases h with h | ⟨hn, g, b, m0, x1, m, g1, hg2, hgn, hto, hsp, him, heq, hes, hms, hm0, hmi, hhe, hm⟩
  · have c1 : decide (t < 0) = true := decide_eq_true h
    go_enter Tryd.func9, Tryd.ntmps9
    go_wp2_with (first | ((with_reducible refine gate_callee (f := 10) rfl ?_); refine goesL_ (some 18) rfl rfl Tryd.func10 (by kernel_rfl) rfl #[.slice A0 l0.length c0, .int .i64 1048576] rfl (by (try simp only [List.map_toArray, List.map_cons, List.map_nil]); first | done | rfl | (simp only [List.length_drop, List.length_take]; rfl)) ?_; (with_reducible refine (laws_szStringS.calls k _ _ l0 1048576 t _ ?side1 ?side2 HSZ.out).mono ?_); (case side1 => repeat (first | exact (Kd.C_below HR0.out HB.out) | (with_reducible refine Kd.C_alloc ?_ _) | (with_reducible refine Kd.C_drewN ?_ _) | (with_reducible refine Kd.C_drew ?_))); (case side2 => exact HC0.out); rintro e w' ⟨rfl, ⟨nd, rfl⟩⟩; refine ⟨_, rfl, ?_⟩))
    go_ret
    exact ⟨rfl, by repeat (first | (with_reducible first | exact HB.out | apply below_alloc | apply pw_below_drewN | apply below_drew1) | exact HB.out)⟩
  · have c1 : decide (t < 0) = false := decide_eq_false hn
    have c2 : decide (m0 < 0) = false := decide_eq_false hm0
    have c3 : decide (m < 0) = false := decide_eq_false hm
    have HTO := Aside0.mk hto
    have HSP := Aside0.mk hsp
    have HIM := Aside0.mk him
    have HEQ := Aside0.mk heq
    have HES := Aside0.mk hes
    have HMS := Aside0.mk hms
    have HMI := Aside0.mk hmi
    have HHE := Aside0.mk hhe
    have HG2 := Aside0.mk hg2
    have HGN := Aside0.mk hgn
    clear hg2 hgn hn hm0 hm hto hsp him heq hes hms hmi hhe
    go_enter Tryd.func9, Tryd.ntmps9
    go_wp2_with (first
    | ((with_reducible refine gate_callee (f := 10) rfl ?_); refine goesL_ (some 18) rfl rfl Tryd.func10 (by kernel_rfl) rfl #[.slice A0 l0.length c0, .int .i64 1048576] rfl (by (try simp only [List.map_toArray, List.map_cons, List.map_nil]); first | done | rfl | (simp only [List.length_drop, List.length_take]; rfl)) ?_; (with_reducible refine (laws_szStringS.calls k _ _ l0 1048576 t _ ?side1 ?side2 HSZ.out).mono ?_); (case side1 => repeat (first | exact (Kd.C_below HR0.out HB.out) | (with_reducible refine Kd.C_alloc ?_ _) | (with_reducible refine Kd.C_drewN ?_ _) | (with_reducible refine Kd.C_drew ?_))); (case side2 => exact HC0.out); rintro e w' ⟨rfl, ⟨nd, rfl⟩⟩; refine ⟨_, rfl, ?_⟩)
    | ((with_reducible refine gate_callee (f := 12) rfl ?_); refine goesL_ (some 23) rfl rfl Tryd.func12 (by kernel_rfl) rfl #[.slice A0 l0.length c0] rfl (by (try simp only [List.map_toArray, List.map_cons, List.map_nil]); first | done | rfl | (simp only [List.length_drop, List.length_take]; rfl)) ?_; (with_reducible refine (laws_toStringS.calls k _ _ l0 l0 _ ?side1 ?side2 HTO.out).mono ?_); (case side1 => repeat (first | exact (Kd.C_below HR0.out HB.out) | (with_reducible refine Kd.C_alloc ?_ _) | (with_reducible refine Kd.C_drewN ?_ _) | (with_reducible refine Kd.C_drew ?_))); (case side2 => exact HC0.out); rintro e w23 ⟨v23, rfl, ho0, hb⟩; refine ⟨_, rfl, ?_⟩; have n_HY := Aside0.mk (ho0); have n_HB := Aside0.mk (below_step (by repeat (first | (with_reducible first | exact HB.out | apply below_alloc | apply pw_below_drewN | apply below_drew1) | exact HB.out)) hb); (try clear HY); (try clear HB); have HY := n_HY; have HB := n_HB; clear n_HY; clear n_HB; (try clear hb); (try clear ho0); (try clear hkp); (try clear hy0); obtain ⟨AHY, cHY, eHY⟩ := Kd.R_slice HY.out; subst eHY)
    | ((with_reducible refine gate_callee (f := 30) rfl ?_); refine goesL_ (some 25) rfl rfl Tryd.func30 (by kernel_rfl) rfl #[.slice AHY l0.length cHY, .int .i64 a1] rfl (by (try simp only [List.map_toArray, List.map_cons, List.map_nil]); first | done | rfl | (simp only [List.length_drop, List.length_take]; rfl)) ?_; (with_reducible refine (spec_LastSquares.calls k _ _ l0 a1 g b _ ?side1 ?side2 HSP.out).mono ?_); (case side1 => repeat (first | exact (Kd.R_reads' HY.out).2.2 | (with_reducible refine Kd.C_alloc ?_ _) | (with_reducible refine Kd.C_drewN ?_ _) | (with_reducible refine Kd.C_drew ?_))); (case side2 => exact (Kd.R_reads' HY.out).2.1); rintro e w25 ⟨v25, rfl, ho0, hb⟩; refine ⟨_, rfl, ?_⟩; obtain ⟨a_, ea_⟩ : ∃ a_, a_ = w25.heap.size := ⟨_, rfl⟩; have HA := Aside0.mk (Nat.le_of_eq ea_); clear HY; have n_HW := Aside0.mk (Kd.N_mono (ok' := fun k_ => k_ < a_) (Kd.N_bound (Kd.N_lower ho0 (below_size (by repeat (first | (with_reducible first | exact HB.out | apply below_alloc | apply pw_below_drewN | apply below_drew1) | exact HB.out))))) (fun k_ hk_ => by have := hk_.2; omega)); have n_HB := Aside0.mk (below_step (by repeat (first | (with_reducible first | exact HB.out | apply below_alloc | apply pw_below_drewN | apply below_drew1) | exact HB.out)) hb); (try clear HW); (try clear HB); have HW := n_HW; have HB := n_HB; clear n_HW; clear n_HB; (try clear hb); (try clear ho0); (try clear hkp); (try clear hy0); clear ea_)
    | ((with_reducible refine gate_callee (f := 12) rfl ?_); refine goesL_ (some 29) rfl rfl Tryd.func12 (by kernel_rfl) rfl #[.slice A0 l0.length c0] rfl (by (try simp only [List.map_toArray, List.map_cons, List.map_nil]); first | done | rfl | (simp only [List.length_drop, List.length_take]; rfl)) ?_; (with_reducible refine (laws_toStringS.calls k _ _ l0 l0 _ ?side1 ?side2 HTO.out).mono ?_); (case side1 => repeat (first | exact (Kd.C_below HR0.out HB.out) | (with_reducible refine Kd.C_alloc ?_ _) | (with_reducible refine Kd.C_drewN ?_ _) | (with_reducible refine Kd.C_drew ?_))); (case side2 => exact HC0.out); rintro e w29 ⟨v29, rfl, ho0, hb⟩; refine ⟨_, rfl, ?_⟩; obtain ⟨b_, eb_⟩ : ∃ b_, b_ = w29.heap.size := ⟨_, rfl⟩; have HBB := Aside0.mk (Nat.le_of_eq eb_); have hab := Nat.le_trans HA.out hb.size; have HAB := Aside0.mk (show a_ ≤ b_ by rw [eb_]; exact hab); replace ho0 := Kd.R_mono (ok' := fun k_ => a_ ≤ k_ ∧ k_ < b_) (Kd.R_bound ho0) (fun k_ hk_ => ⟨Nat.le_trans HA.out hk_.2.1, by have := hk_.2.2.1; omega⟩); have n_HW := Aside0.mk (Kd.N_below (by (with_reducible repeat (first | apply Kd.N_alloc | apply Kd.N_drewN | apply Kd.N_drew)); exact HW.out) hb); have n_HX := Aside0.mk (Kd.R_lower ho0 (below_size (by repeat (first | (with_reducible first | exact HB.out | apply below_alloc | apply pw_below_drewN | apply below_drew1) | exact HB.out)))); have n_HB := Aside0.mk (below_step (by repeat (first | (with_reducible first | exact HB.out | apply below_alloc | apply pw_below_drewN | apply below_drew1) | exact HB.out)) hb); (try clear HW); (try clear HX); (try clear HB); have HW := n_HW; have HX := n_HX; have HB := n_HB; clear n_HW; clear n_HX; clear n_HB; (try clear hb); (try clear ho0); (try clear hkp); (try clear hy0); clear eb_ hab; obtain ⟨AX, cX, eX⟩ := Kd.R_slice HX.out; subst eX)
    | ((with_reducible refine gate_callee (f := 31) rfl ?_); refine goesL_ (some 33) rfl rfl Tryd.func31 (by kernel_rfl) rfl #[.slice AX l0.length cX, .int .i64 a1] rfl (by (try simp only [List.map_toArray, List.map_cons, List.map_nil]); first | done | rfl | (simp only [List.length_drop, List.length_take]; rfl)) ?_; (with_reducible refine (impl_LastSquares.calls k _ _ l0 a1 g b _ ?side1 ?side2 HIM.out).mono ?_); (case side1 => repeat (first | exact (Kd.R_reads' HX.out).2.2 | (with_reducible refine Kd.C_alloc ?_ _) | (with_reducible refine Kd.C_drewN ?_ _) | (with_reducible refine Kd.C_drew ?_))); (case side2 => exact (Kd.R_reads' HX.out).2.1); rintro e w33 ⟨v33, rfl, ho0, hb⟩; refine ⟨_, rfl, ?_⟩; replace ho0 := rows_apart ho0 HG2.out HGN.out; replace ho0 := Kd.S_mono (ok' := fun k_ => b_ ≤ k_) (Kd.S_bound ho0) (fun k_ hk_ => Nat.le_trans HBB.out hk_.2.1); have n_HW := Aside0.mk (Kd.N_below (by (with_reducible repeat (first | apply Kd.N_alloc | apply Kd.N_drewN | apply Kd.N_drew)); exact HW.out) hb); have n_HX := Aside0.mk (Kd.R_below (by (with_reducible repeat (first | apply Kd.R_alloc | apply Kd.R_drewN | apply Kd.R_drew)); exact HX.out) hb); have n_HG := Aside0.mk (Kd.S_lower ho0 (below_size (by repeat (first | (with_reducible first | exact HB.out | apply below_alloc | apply pw_below_drewN | apply below_drew1) | exact HB.out)))); have n_HB := Aside0.mk (below_step (by repeat (first | (with_reducible first | exact HB.out | apply below_alloc | apply pw_below_drewN | apply below_drew1) | exact HB.out)) hb); (try clear HW); (try clear HX); (try clear HG); (try clear HB); have HW := n_HW; have HX := n_HX; have HG := n_HG; have HB := n_HB; clear n_HW; clear n_HX; clear n_HG; clear n_HB; (try clear hb); (try clear ho0); (try clear hkp); (try clear hy0); obtain ⟨AG, cG, eG⟩ := Kd.S_slice HG.out; subst eG; obtain ⟨AW, cW, eW⟩ := Kd.N_slice HW.out; subst eW)
    | ((with_reducible refine gate_callee (f := 32) rfl ?_); refine goesL_ (some 38) rfl rfl Tryd.func32 (by kernel_rfl) rfl #[.slice AG g.length cG, .slice AW g.length cW] rfl (by (try simp only [List.map_toArray, List.map_cons, List.map_nil]); first | done | rfl | (simp only [List.length_drop, List.length_take]; rfl)) ?_; (with_reducible refine (laws_eqIntSS.calls k _ _ g _ _ g true _ ?side1 ?side2 ?side3 ?side4 HEQ.out).mono ?_); (case side1 => repeat (first | exact (Kd.S_reads' HG.out).2.2 | (with_reducible refine Kd.C_alloc ?_ _) | (with_reducible refine Kd.C_drewN ?_ _) | (with_reducible refine Kd.C_drew ?_))); (case side2 => exact (Kd.S_reads' HG.out).2.1); (case side3 => repeat (first | exact (Kd.N_reads' HW.out).2.2 | (with_reducible refine Kd.C_alloc ?_ _) | (with_reducible refine Kd.C_drewN ?_ _) | (with_reducible refine Kd.C_drew ?_))); (case side4 => exact (Kd.N_reads' HW.out).2.1); rintro e w' ⟨rfl, ⟨nd, rfl⟩⟩; refine ⟨_, rfl, ?_⟩)
    | ((with_reducible refine gate_callee (f := 12) rfl ?_); refine goesL_ (some 47) rfl rfl Tryd.func12 (by kernel_rfl) rfl #[.slice A0 l0.length c0] rfl (by (try simp only [List.map_toArray, List.map_cons, List.map_nil]); first | done | rfl | (simp only [List.length_drop, List.length_take]; rfl)) ?_; (with_reducible refine (laws_toStringS.calls k _ _ l0 l0 _ ?side1 ?side2 HTO.out).mono ?_); (case side1 => repeat (first | exact (Kd.C_below HR0.out HB.out) | (with_reducible refine Kd.C_alloc ?_ _) | (with_reducible refine Kd.C_drewN ?_ _) | (with_reducible refine Kd.C_drew ?_))); (case side2 => exact HC0.out); rintro e w47 ⟨v47, rfl, ho0, hb⟩; refine ⟨_, rfl, ?_⟩; have n_HW := Aside0.mk (Kd.N_below (by (with_reducible repeat (first | apply Kd.N_alloc | apply Kd.N_drewN | apply Kd.N_drew)); exact HW.out) hb); have n_HX := Aside0.mk (Kd.R_below (by (with_reducible repeat (first | apply Kd.R_alloc | apply Kd.R_drewN | apply Kd.R_drew)); exact HX.out) hb); have n_HG := Aside0.mk (Kd.S_below (by (with_reducible repeat (first | apply Kd.S_alloc | apply Kd.S_drewN | apply Kd.S_drew)); exact HG.out) hb); have n_HZ := Aside0.mk (ho0); have n_HB := Aside0.mk (below_step (by repeat (first | (with_reducible first | exact HB.out | apply below_alloc | apply pw_below_drewN | apply below_drew1) | exact HB.out)) hb); (try clear HW); (try clear HX); (try clear HG); (try clear HZ); (try clear HB); have HW := n_HW; have HX := n_HX; have HG := n_HG; have HZ := n_HZ; have HB := n_HB; clear n_HW; clear n_HX; clear n_HG; clear n_HZ; clear n_HB; (try clear hb); (try clear ho0); (try clear hkp); (try clear hy0); obtain ⟨AHZ, cHZ, eHZ⟩ := Kd.R_slice HZ.out; subst eHZ)
    | ((with_reducible refine gate_callee (f := 14) rfl ?_); refine goesL_ (some 48) rfl rfl Tryd.func14 (by kernel_rfl) rfl #[.slice AX l0.length cX, .slice AHZ l0.length cHZ] rfl (by (try simp only [List.map_toArray, List.map_cons, List.map_nil]); first | done | rfl | (simp only [List.length_drop, List.length_take]; rfl)) ?_; (with_reducible refine (laws_eqStringS.calls k _ _ l0 _ _ l0 true _ ?side1 ?side2 ?side3 ?side4 HES.out).mono ?_); (case side1 => repeat (first | exact (Kd.R_reads' HX.out).2.2 | (with_reducible refine Kd.C_alloc ?_ _) | (with_reducible refine Kd.C_drewN ?_ _) | (with_reducible refine Kd.C_drew ?_))); (case side2 => exact (Kd.R_reads' HX.out).2.1); (case side3 => repeat (first | exact (Kd.R_reads' HZ.out).2.2 | (with_reducible refine Kd.C_alloc ?_ _) | (with_reducible refine Kd.C_drewN ?_ _) | (with_reducible refine Kd.C_drew ?_))); (case side4 => exact (Kd.R_reads' HZ.out).2.1); rintro e w' ⟨rfl, ⟨nd, rfl⟩⟩; refine ⟨_, rfl, ?_⟩; clear HZ)
    | ((with_reducible refine gate_callee (f := 15) rfl ?_); refine goesL_ (some 52) rfl rfl Tryd.func15 (by kernel_rfl) rfl #[.slice AX l0.length cX, .int .i64 1] rfl (by (try simp only [List.map_toArray, List.map_cons, List.map_nil]); first | done | rfl | (simp only [List.length_drop, List.length_take]; rfl)) ?_; (with_reducible refine (laws_markStringS.calls k (fun k_ => a_ ≤ k_ ∧ k_ < b_) (.slice AX l0.length cX) l0 1 m0 x1 w _ ?side1 ?side2 HMS.out).mono ?_); (case side1 => repeat (first | (with_reducible first | exact HB.out | apply below_alloc | apply pw_below_drewN | apply below_drew1) | exact HB.out)); (case side2 => exact (by (with_reducible repeat (first | apply Kd.R_alloc | apply Kd.R_drewN | apply Kd.R_drew)); exact HX.out)); rintro e w52 ⟨rfl, hy0, hb, hkp⟩; refine ⟨_, rfl, ?_⟩; have n_HW := Aside0.mk (Kd.N_kept (by (with_reducible repeat (first | apply Kd.N_alloc | apply Kd.N_drewN | apply Kd.N_drew)); exact HW.out) hkp (fun k_ hk_ hs_ => by omega)); have n_HG := Aside0.mk (Kd.S_step (by (with_reducible repeat (first | apply Kd.S_alloc | apply Kd.S_drewN | apply Kd.S_drew)); exact HG.out) (fun k_ hk_ hl_ => hkp.2 k_ hl_ (fun hs_ => by omega))); have n_HB := Aside0.mk (hb); (try clear HW); (try clear HG); (try clear HB); have HW := n_HW; have HG := n_HG; have HB := n_HB; clear n_HW; clear n_HG; clear n_HB; clear HX; (try clear hb); (try clear ho0); (try clear hkp); (try clear hy0))
    | (go_at_call 32; (with_reducible refine (laws_eqIntSS.calls k _ _ g _ _ g true _ ?side1 ?side2 ?side3 ?side4 HEQ.out).mono ?_); (case side1 => repeat (first | exact (Kd.S_reads' HG.out).2.2 | (with_reducible refine Kd.C_alloc ?_ _) | (with_reducible refine Kd.C_drewN ?_ _) | (with_reducible refine Kd.C_drew ?_))); (case side2 => exact (Kd.S_reads' HG.out).2.1); (case side3 => repeat (first | exact (Kd.N_reads' HW.out).2.2 | (with_reducible refine Kd.C_alloc ?_ _) | (with_reducible refine Kd.C_drewN ?_ _) | (with_reducible refine Kd.C_drew ?_))); (case side4 => exact (Kd.N_reads' HW.out).2.1); rintro e w' ⟨rfl, ⟨nd, rfl⟩⟩)
    | ((with_reducible refine gate_callee (f := 33) rfl ?_); refine goesL_ (some 68) rfl rfl Tryd.func33 (by kernel_rfl) rfl #[.slice AG g.length cG, .int .i64 1] rfl (by (try simp only [List.map_toArray, List.map_cons, List.map_nil]); first | done | rfl | (simp only [List.length_drop, List.length_take]; rfl)) ?_; (with_reducible refine (laws_markIntSS.calls k (fun k_ => b_ ≤ k_) (.slice AG g.length cG) g 1 m g1 w _ ?side1 ?side2 HMI.out).mono ?_); (case side1 => repeat (first | (with_reducible first | exact HB.out | apply below_alloc | apply pw_below_drewN | apply below_drew1) | exact HB.out)); (case side2 => exact (by (with_reducible repeat (first | apply Kd.S_alloc | apply Kd.S_drewN | apply Kd.S_drew)); exact HG.out)); rintro e w68 ⟨rfl, hy0, hb, hkp⟩; refine ⟨_, rfl, ?_⟩; have n_HW := Aside0.mk (Kd.N_kept (by (with_reducible repeat (first | apply Kd.N_alloc | apply Kd.N_drewN | apply Kd.N_drew)); exact HW.out) hkp (fun k_ hk_ hs_ => by have := HAB.out; omega)); have n_HG := Aside0.mk (hy0); have n_HB := Aside0.mk (hb); (try clear HW); (try clear HG); (try clear HB); have HW := n_HW; have HG := n_HG; have HB := n_HB; clear n_HW; clear n_HG; clear n_HB; (try clear hb); (try clear ho0); (try clear hkp); (try clear hy0))
    | ((with_reducible refine gate_callee (f := 34) rfl ?_); refine goesL_ (some 71) rfl rfl Tryd.func34 (by kernel_rfl) rfl #[.slice AG g1.length cG, .int .i64 1] rfl (by (try simp only [List.map_toArray, List.map_cons, List.map_nil]); first | done | (rw [← (Kd.S_reads' HG.out).1]; done) | (rw [← (Kd.S_reads' HG.out).1]; rfl) | rfl | (simp only [List.length_drop, List.length_take]; rfl)) ?_; (with_reducible refine (laws_heldIntSS.calls k _ _ g1 1 m _ ?side1 ?side2 HHE.out).mono ?_); (case side1 => repeat (first | exact (Kd.S_reads' HG.out).2.2 | (with_reducible refine Kd.C_alloc ?_ _) | (with_reducible refine Kd.C_drewN ?_ _) | (with_reducible refine Kd.C_drew ?_))); (case side2 => (rw [← (Kd.S_reads' HG.out).1]; exact (Kd.S_reads' HG.out).2.1)); rintro e w' ⟨rfl, ⟨nd, rfl⟩⟩; refine ⟨_, rfl, ?_⟩)
    | ((with_reducible refine gate_callee (f := 12) rfl ?_); refine goesL_ (some 79) rfl rfl Tryd.func12 (by kernel_rfl) rfl #[.slice A0 l0.length c0] rfl (by (try simp only [List.map_toArray, List.map_cons, List.map_nil]); first | done | rfl | (simp only [List.length_drop, List.length_take]; rfl)) ?_; (with_reducible refine (laws_toStringS.calls k _ _ l0 l0 _ ?side1 ?side2 HTO.out).mono ?_); (case side1 => repeat (first | exact (Kd.C_below HR0.out HB.out) | (with_reducible refine Kd.C_alloc ?_ _) | (with_reducible refine Kd.C_drewN ?_ _) | (with_reducible refine Kd.C_drew ?_))); (case side2 => exact HC0.out); rintro e w79 ⟨v79, rfl, ho0, hb⟩; refine ⟨_, rfl, ?_⟩; have n_HW := Aside0.mk (Kd.N_below (by (with_reducible repeat (first | apply Kd.N_alloc | apply Kd.N_drewN | apply Kd.N_drew)); exact HW.out) hb); have n_HG := Aside0.mk (Kd.S_below (by (with_reducible repeat (first | apply Kd.S_alloc | apply Kd.S_drewN | apply Kd.S_drew)); exact HG.out) hb); have n_HY2 := Aside0.mk (ho0); have n_HB := Aside0.mk (below_step (by repeat (first | (with_reducible first | exact HB.out | apply below_alloc | apply pw_below_drewN | apply below_drew1) | exact HB.out)) hb); (try clear HW); (try clear HG); (try clear HY2); (try clear HB); have HW := n_HW; have HG := n_HG; have HY2 := n_HY2; have HB := n_HB; clear n_HW; clear n_HG; clear n_HY2; clear n_HB; (try clear hb); (try clear ho0); (try clear hkp); (try clear hy0); obtain ⟨AHY2, cHY2, eHY2⟩ := Kd.R_slice HY2.out; subst eHY2)
    | ((with_reducible refine gate_callee (f := 31) rfl ?_); refine goesL_ (some 81) rfl rfl Tryd.func31 (by kernel_rfl) rfl #[.slice AHY2 l0.length cHY2, .int .i64 a1] rfl (by (try simp only [List.map_toArray, List.map_cons, List.map_nil]); first | done | rfl | (simp only [List.length_drop, List.length_take]; rfl)) ?_; (with_reducible refine (impl_LastSquares.calls k _ _ l0 a1 g b _ ?side1 ?side2 HIM.out).mono ?_); (case side1 => repeat (first | exact (Kd.R_reads' HY2.out).2.2 | (with_reducible refine Kd.C_alloc ?_ _) | (with_reducible refine Kd.C_drewN ?_ _) | (with_reducible refine Kd.C_drew ?_))); (case side2 => exact (Kd.R_reads' HY2.out).2.1); rintro e w81 ⟨v81, rfl, ho0, hb⟩; refine ⟨_, rfl, ?_⟩; clear HY2; have n_HW := Aside0.mk (Kd.N_below (by (with_reducible repeat (first | apply Kd.N_alloc | apply Kd.N_drewN | apply Kd.N_drew)); exact HW.out) hb); have n_HG := Aside0.mk (Kd.S_below (by (with_reducible repeat (first | apply Kd.S_alloc | apply Kd.S_drewN | apply Kd.S_drew)); exact HG.out) hb); have n_HK := Aside0.mk (ho0); have n_HB := Aside0.mk (below_step (by repeat (first | (with_reducible first | exact HB.out | apply below_alloc | apply pw_below_drewN | apply below_drew1) | exact HB.out)) hb); (try clear HW); (try clear HG); (try clear HK); (try clear HB); have HW := n_HW; have HG := n_HG; have HK := n_HK; have HB := n_HB; clear n_HW; clear n_HG; clear n_HK; clear n_HB; (try clear hb); (try clear ho0); (try clear hkp); (try clear hy0); obtain ⟨AK, cK, eK⟩ := Kd.R_slice HK.out; subst eK)
    | ((with_reducible refine gate_callee (f := 32) rfl ?_); refine goesL_ (some 86) rfl rfl Tryd.func32 (by kernel_rfl) rfl #[.slice AK g.length cK, .slice AW g.length cW] rfl (by (try simp only [List.map_toArray, List.map_cons, List.map_nil]); first | done | rfl | (simp only [List.length_drop, List.length_take]; rfl)) ?_; (with_reducible refine (laws_eqIntSS.calls k _ _ g _ _ g true _ ?side1 ?side2 ?side3 ?side4 HEQ.out).mono ?_); (case side1 => repeat (first | exact (Kd.R_reads' HK.out).2.2 | (with_reducible refine Kd.C_alloc ?_ _) | (with_reducible refine Kd.C_drewN ?_ _) | (with_reducible refine Kd.C_drew ?_))); (case side2 => exact (Kd.R_reads' HK.out).2.1); (case side3 => repeat (first | exact (Kd.N_reads' HW.out).2.2 | (with_reducible refine Kd.C_alloc ?_ _) | (with_reducible refine Kd.C_drewN ?_ _) | (with_reducible refine Kd.C_drew ?_))); (case side4 => exact (Kd.N_reads' HW.out).2.1); rintro e w' ⟨rfl, ⟨nd, rfl⟩⟩; refine ⟨_, rfl, ?_⟩)
    | ((with_reducible refine gate_callee (f := 34) rfl ?_); refine goesL_ (some 95) rfl rfl Tryd.func34 (by kernel_rfl) rfl #[.slice AG g1.length cG, .int .i64 1] rfl (by (try simp only [List.map_toArray, List.map_cons, List.map_nil]); first | done | (rw [← (Kd.S_reads' HG.out).1]; done) | (rw [← (Kd.S_reads' HG.out).1]; rfl) | rfl | (simp only [List.length_drop, List.length_take]; rfl)) ?_; (with_reducible refine (laws_heldIntSS.calls k _ _ g1 1 m _ ?side1 ?side2 HHE.out).mono ?_); (case side1 => repeat (first | exact (Kd.S_reads' HG.out).2.2 | (with_reducible refine Kd.C_alloc ?_ _) | (with_reducible refine Kd.C_drewN ?_ _) | (with_reducible refine Kd.C_drew ?_))); (case side2 => (rw [← (Kd.S_reads' HG.out).1]; exact (Kd.S_reads' HG.out).2.1)); rintro e w' ⟨rfl, ⟨nd, rfl⟩⟩; refine ⟨_, rfl, ?_⟩))
    go_ret
    exact ⟨rfl, by repeat (first | (with_reducible first | exact HB.out | apply below_alloc | apply pw_below_drewN | apply below_drew1) | exact HB.out)⟩
/-- THE ONE PURE STATEMENT of laws_FnExactLastSquares. -/
def laws_FnExactLastSquares.Pure : Prop := ∀ (l0 : List ByteArray) (a1 : Int), l0.length ≤ maxLen → l0.length * 16 ≤ 140737488351232 → (∀ x ∈ l0, x.size ≤ maxLen) → (Lit.int .i64 a1).wf = true → ∃ k, laws_FnExactLastSquares.Ok k l0 a1
theorem laws_FnExactLastSquares.walk (P : laws_FnExactLastSquares.Pure) (a0 : Option Addr) (l0 : List ByteArray) (cap0 : Nat) (a1 : Int) (w : World) (hr0 : Kd.string.C w a0 l0.length l0) (hc0 : l0.length ≤ cap0) (hm0 : l0.length ≤ maxLen) (y0 : l0.length * 16 ≤ 140737488351232) (hw0 : (∀ x ∈ l0, x.size ≤ maxLen)) (w1 : (Lit.int .i64 a1).wf = true) :
    Calls Tryd.prog 9 #[.slice a0 l0.length cap0, .int .i64 a1] w fun e w' => e = .returned (.bool true) ∧ Below w.heap.size w w' := by
  obtain ⟨k, h⟩ := P l0 a1 hm0 y0 hw0 w1
  exact laws_FnExactLastSquares.calls k _ _ l0 a1 w hr0 hc0 h
end Go.Proofs.YtnbmpdpcbndooaaDoor.T
