-- Laid by a program of this session (wip/pp.py) over the seat's translation, with its own texts for some functions.
import Derived.Test.YtnppcpjkjepfeaaV0
import Derived.Test.YtnppcpjkjepfeaaV4
namespace Go.Proofs.Ytnppcpjkjepfeaa.V
open Go.RowKit Go.Proofs.YtnppcpjkjepfeaaW.PrintWords Go.Proofs.YtnppcpjkjepfeaaW.PrintLast Go.Proofs.YtnppcpjkjepfeaaW.PrintMore
attribute [local go_sem] max2_int min2_int max_two min_two max_three min_three max_four min_four   -- for this text's walks alone
set_option linter.unusedVariables false
set_option linter.unusedSimpArgs false

/-! ### impl_PoorestShare: function 29 -/
/-- A list's least number. -/
def minL : List Int → Int
  | [] => 0
  | x :: r => r.foldl mn x
/-- The loop over the sharers: k is the next one, b the best so far; m are left. -/
def psLoop (rec : Int → List Int → Int → Int) (wgt used : Int) (L : List Int) : Nat → Int → Int → Int
  | 0, _, b => b
  | m + 1, k, b => psLoop rec wgt used L m (k + 1) (rec (mx used (k + 1)) (L.set k.toNat (wrap64 (rd L k + wgt))) b)
/-- The best behind giving the last d bars. -/
def gv (xs : List Int) (n : Nat) : Nat → Int → List Int → Int → Int
  | 0, _, L, b => mx b (minL L)
  | d + 1, used, L, b => psLoop (gv xs n d) (rd xs ((xs.length : Int) - (d + 1 : Nat))) used L (mn (used + 1) n).toNat 0 b
structure PsInv (xs : List Int) (A0 : Option Addr) (c0 n bw bb bl bs bg : Nat) (w0 W : World) (L : List Int) (b : Int) (g : Nat) : Prop where
  below : Below w0.heap.size w0 W
  cw : W.cell? ⟨bw, 0, none⟩ = some (.slice A0 xs.length c0)
  cb : W.cell? ⟨bb, 0, none⟩ = some (.int .i64 b)
  fb : W.frozen? ⟨bb, 0, none⟩ = false
  cl : W.cell? ⟨bl, 0, none⟩ = some (.slice (some ⟨g, 0, none⟩) n n)
  cs : W.cell? ⟨bs, 0, none⟩ = some (.int .i64 n)
  cg : W.cell? ⟨bg, 0, none⟩ = some (.func (.func 60) #[] #[.pointer (some ⟨bw, 0, none⟩), .pointer (some ⟨bb, 0, none⟩), .pointer (some ⟨bl, 0, none⟩), .pointer (some ⟨bs, 0, none⟩), .pointer (some ⟨bg, 0, none⟩)])
  own : Kd.R (Kd.int .i64) 3 W w0.heap.size (fun k => k = g) (.slice (some ⟨g, 0, none⟩) n n) L
  hb : w0.heap.size ≤ bb
  hg : w0.heap.size ≤ g
  nb : bw ≠ bb ∧ bl ≠ bb ∧ bs ≠ bb ∧ bg ≠ bb ∧ g ≠ bb
  ng : bw ≠ g ∧ bl ≠ g ∧ bs ≠ g ∧ bg ≠ g
section
variable {xs : List Int} {A0 : Option Addr} {c0 n bw bb bl bs bg : Nat} {w0 W W' : World} {L : List Int} {b : Int} {g : Nat}
theorem PsInv.kept (h : PsInv xs A0 c0 n bw bb bl bs bg w0 W L b g) (hB : Below W.heap.size W W') : PsInv xs A0 c0 n bw bb bl bs bg w0 W' L b g :=
  ⟨h.below.trans (hB.mono h.below.size), (hB.cell (World.block_lt_of_cell? W _ h.cw)).trans h.cw, (hB.cell (World.block_lt_of_cell? W _ h.cb)).trans h.cb,
    (World.frozen?_of_block (hB.block _ (World.block_lt_of_cell? W _ h.cb))).trans h.fb, (hB.cell (World.block_lt_of_cell? W _ h.cl)).trans h.cl, (hB.cell (World.block_lt_of_cell? W _ h.cs)).trans h.cs,
    (hB.cell (World.block_lt_of_cell? W _ h.cg)).trans h.cg, Kd.R_below h.own hB, h.hb, h.hg, h.nb, h.ng⟩
theorem cell_far {W : World} {p q : Addr} {u v : Value} (h : W.cell? q = some v) (hne : q.block ≠ p.block) : (W.setCell p u).cell? q = some v :=
  (World.cell?_of_block (Below.heap_setCell W p u _ hne)).trans h
theorem PsInv.setL (h : PsInv xs A0 c0 n bw bb bl bs bg w0 W L b g) (k x : Int) : PsInv xs A0 c0 n bw bb bl bs bg w0 (W.setCell ⟨g, k.toNat, none⟩ (.int .i64 x)) (L.set k.toNat x) b g :=
  ⟨h.below.setCell h.hg _, cell_far h.cw h.ng.1, cell_far h.cb (Ne.symm h.nb.2.2.2.2), by rw [World.frozen?_setCell]; exact h.fb, cell_far h.cl h.ng.2.1, cell_far h.cs h.ng.2.2.1, cell_far h.cg h.ng.2.2.2, Kd.R_putn h.own k x, h.hb, h.hg, h.nb, h.ng⟩
theorem PsInv.setB (h : PsInv xs A0 c0 n bw bb bl bs bg w0 W L b g) (x : Int) : PsInv xs A0 c0 n bw bb bl bs bg w0 (W.setCell ⟨bb, 0, none⟩ (.int .i64 x)) L x g :=
  ⟨h.below.setCell h.hb _, cell_far h.cw h.nb.1, World.cell?_setCell_same' _ _ _ (by rw [h.cb]; rfl), by rw [World.frozen?_setCell]; exact h.fb, cell_far h.cl h.nb.2.1, cell_far h.cs h.nb.2.2.1, cell_far h.cg h.nb.2.2.2.1, Kd.R_far h.own (fun k hk => by rw [hk]; exact h.nb.2.2.2.2) _, h.hb, h.hg, h.nb, h.ng⟩
theorem PsInv.drew (h : PsInv xs A0 c0 n bw bb bl bs bg w0 W L b g) : PsInv xs A0 c0 n bw bb bl bs bg w0 W.drew L b g := h.kept (below_drew1 (Below.refl _ _))
end
theorem min_l0 (L : List Int) (hL : L.length ≤ 1000) (d : Nat) : ∀ (j : Nat) (m : Int), L.length - j = d → j ≤ L.length → ∃ k, slices_Min_int_int.l0 k L m (j : Int) = some ((L.drop j).foldl mn m) := by
  induction d with
  | zero =>
    intro j m hd hj
    refine ⟨1, ?_⟩
    simp only [slices_Min_int_int.l0]
    rw [if_neg (by omega), List.drop_of_length_le (by omega)]
    rfl
  | succ d ih =>
    intro j m hd hj
    have hj1 : j < L.length := by omega
    have e : rd L (j : Int) = L[j] := by simp [rd, List.getD_eq_getElem?_getD, List.getElem?_eq_getElem hj1]
    obtain ⟨k, hk⟩ := ih (j + 1) (mn m L[j]) (by omega) (by omega)
    refine ⟨k + 1, ?_⟩
    simp only [slices_Min_int_int.l0]
    have hw : wrap64 ((j : Int) + 1) = ((j + 1 : Nat) : Int) := by unfold wrap64; omega
    rw [if_pos (by omega), if_pos (by omega), e, hw, hk, List.drop_eq_getElem_cons hj1]
    rfl
theorem min_some (L : List Int) (h0 : 0 < L.length) (hL : L.length ≤ 1000) : ∃ k, slices_Min_int_int.f k L = some (minL L) := by
  match L, h0, hL with
  | x :: r, h0, hL =>
    obtain ⟨k, hk⟩ := min_l0 (x :: r) hL r.length 1 x (by simp) (by simp)
    refine ⟨k, ?_⟩
    unfold slices_Min_int_int.f
    rw [if_neg (by simp only [List.length_cons]; omega), if_pos (by simp only [List.length_cons]; omega)]
    exact hk
set_option maxHeartbeats 4000000 in
set_option maxRecDepth 100000 in
theorem ps_give (xs : List Int) (A0 : Option Addr) (c0 n bw bb bl bs bg : Nat) (w0 : World) (hr0 : Kd.C (Kd.int .i64) w0 A0 xs.length xs) (hc0 : xs.length ≤ c0) (hx : xs.length ≤ 12) (hn : 0 < n) (hn4 : n ≤ 4) (hxs : ∀ x ∈ xs, 0 ≤ x ∧ x ≤ 1000) (d : Nat) :
    ∀ (i used : Int) (L : List Int) (b : Int) (g : Nat) (W : World), i = (xs.length : Int) - d → d ≤ xs.length → 0 ≤ used → used ≤ 1000 → L.length = n → (∀ x ∈ L, 0 ≤ x ∧ x ≤ 13000 - 1000 * (d : Int)) → PsInv xs A0 c0 n bw bb bl bs bg w0 W L b g →
    Calls Try.prog 60 #[.int .i64 i, .int .i64 used, .pointer (some ⟨bw, 0, none⟩), .pointer (some ⟨bb, 0, none⟩), .pointer (some ⟨bl, 0, none⟩), .pointer (some ⟨bs, 0, none⟩), .pointer (some ⟨bg, 0, none⟩)] W
      fun e w' => e = .returned (.tuple #[]) ∧ PsInv xs A0 c0 n bw bb bl bs bg w0 w' L (gv xs n d used L b) g := by
  induction d with
  | zero =>
    intro i used L b g W hi _ h0 h1 hl hb hI
    have hc : (i == (xs.length : Int)) = true := beq_iff_eq.mpr (by omega)
    obtain ⟨k, hk⟩ := min_some L (by omega) (by omega)
    have hcw := hI.cw
    have hcb := hI.cb
    have hfb := hI.fb
    have hcl := hI.cl
    obtain ⟨A, c, e1, e2, hC⟩ := Kd.R_reads hI.own
    have e1' := e1
    injection e1' with e3 e4 e5
    subst e3
    subst e5
    have hmin := fun (W1 : World) (hB : Below W.heap.size W W1) => slices_Min_int_int.calls k (some ⟨g, 0, none⟩) n L (minL L) W1 (Kd.C_below hC hB) (by omega) hk
    rw [hl] at hmin
    have hgv : gv xs n 0 used L b = mx b (minL L) := rfl
    rw [hgv]
    obtain ⟨mL, hmL⟩ : ∃ mL, mL = minL L := ⟨_, rfl⟩
    rw [← hmL] at hmin ⊢
    have HMIN := Aside0.mk hmin
    have HI := Aside0.mk hI
    clear hmin hI hC e1 e2 e4 hk hb hi h0 h1 hgv hmL
    by_cases c : b < mL
    · have hm : mx b mL = mL := by unfold mx; rw [if_pos c]
      rw [hm]
      go_enter Try.func60, Try.ntmps60
      go_wp2
      go_region_with (go_at_call 61; (with_reducible refine (HMIN.out _ ?hB).mono ?_); (case hB => repeat (first | exact Below.refl _ _ | apply below_drew1 | apply pw_below_drewN)); rintro e w1 ⟨rfl, hb1⟩; have hI1 := Aside0.mk (HI.out.drew.kept hb1); have hcb1 := hI1.out.cb; have hfb1 := hI1.out.fb; have hcl1 := hI1.out.cl; clear hb1)
      all_goals go_wp2
      all_goals (refine bodyPost_ret (results_none rfl _ _ _) rfl ?_)
      all_goals exact ⟨rfl, hI1.out.setB mL⟩
    · have hm : mx b mL = b := by unfold mx; rw [if_neg c]
      rw [hm]
      go_enter Try.func60, Try.ntmps60
      go_wp2
      go_region_with (go_at_call 61; (with_reducible refine (HMIN.out _ ?hB).mono ?_); (case hB => repeat (first | exact Below.refl _ _ | apply below_drew1 | apply pw_below_drewN)); rintro e w1 ⟨rfl, hb1⟩; have hI1 := Aside0.mk (HI.out.drew.kept hb1); have hcb1 := hI1.out.cb; have hfb1 := hI1.out.fb; have hcl1 := hI1.out.cl; clear hb1)
      all_goals go_wp2
      all_goals (refine bodyPost_ret (results_none rfl _ _ _) rfl ?_)
      all_goals exact ⟨rfl, hI1.out.setB b⟩
  | succ d ih =>
    intro i used L b g W hi hd h0 h1 hl hb hI
    have hc : (i == (xs.length : Int)) = false := beq_eq_false_iff_ne.mpr (by omega)
    have i0 : 0 ≤ i := by omega
    have i1 : i ≤ 1000 := by omega
    have i2 : i < (xs.length : Int) := by omega
    obtain ⟨ad, ea, hxc⟩ := Kd.at_int hr0 i i0 i2
    cases ea
    have hgv : gv xs n (d + 1) used L b = psLoop (gv xs n d) (rd xs i) used L (mn (used + 1) n).toNat 0 b := by rw [hi]; rfl
    rw [hgv]
    have HIE := Aside0.mk hi
    clear hi
    obtain ⟨wi, hwi⟩ : ∃ wi, wi = rd xs i := ⟨_, rfl⟩
    have hwb : 0 ≤ wi ∧ wi ≤ 1000 := by
      have hlt : i.toNat < xs.length := by omega
      have e : rd xs i = xs[i.toNat] := by simp [rd, List.getD_eq_getElem?_getD, List.getElem?_eq_getElem hlt]
      rw [hwi, e]
      exact hxs _ (List.getElem_mem hlt)
    have hxw : ∀ W' : World, Below w0.heap.size w0 W' → W'.cell? (ad.add i.toNat) = some (.int .i64 wi) := fun W' h => by rw [hwi]; exact (h.cell (World.block_lt_of_cell? w0 _ hxc)).trans hxc
    rw [← hwi]
    by_cases cn : (n : Int) < used + 1
    · have hM : (n : Int) = mn (used + 1) (n : Int) := by unfold mn; rw [if_pos cn]
      have hM1 : 0 ≤ (n : Int) ∧ (n : Int) ≤ n ∧ (n : Int) ≤ used + 1 := by omega
      rw [← hM]
      obtain ⟨R, hR⟩ : ∃ R, R = psLoop (gv xs n d) wi used L ((n : Int)).toNat 0 b := ⟨_, rfl⟩
      rw [← hR]
      have HXW := Aside0.mk hxw
      have HM := Aside0.mk (show (n : Int) = mn (used + 1) (n : Int) ∧ 0 ≤ (n : Int) ∧ (n : Int) ≤ n ∧ (n : Int) ≤ used + 1 from ⟨hM, hM1⟩)
      have HR := Aside0.mk hR
      have HI := Aside0.mk hI
      have hcw := hI.cw
      have hcs := hI.cs
      have i2e := eq_true i2
      clear hxw hM hM1 hR hI hgv hwi hr0 hxc
      go_enter Try.func60, Try.ntmps60
      go_wp2
      go_loopg [22] (n + 1) (fun gg v22 wr => ∃ (k b' : Int), v22 = .int .i64 k ∧ Aside0 (0 ≤ k ∧ k ≤ (n : Int) ∧ (n : Int) - k < (gg : Int)) ∧ Aside0 (psLoop (gv xs n d) wi used L ((n : Int) - k).toNat k b' = R) ∧ Aside0 (PsInv xs (some ad) c0 n bw bb bl bs bg w0 wr L b' g))
      clear hcw hcs
      case atStart => exact ⟨0, b, rfl, ⟨by have := HM.out; omega⟩, ⟨by rw [Int.sub_zero]; exact HR.out.symm⟩, HI⟩
      case round =>
        clear HI
        obtain ⟨k, b', rfl, HS, HL, HI2⟩ := hrel
        cases gk with
        | zero => exact absurd HS.out (by omega)
        | succ gk =>
          by_cases ck : k < (n : Int)
          · obtain ⟨m, hm⟩ : ∃ m, ((n : Int) - k).toNat = m + 1 := ⟨((n : Int) - k).toNat - 1, by omega⟩
            have h := HL.out
            rw [hm] at h
            simp only [psLoop] at h
            obtain ⟨V, hV⟩ : ∃ V, V = wrap64 (rd L k + wi) := ⟨_, rfl⟩
            rw [← hV] at h
            have k0 : 0 ≤ k := HS.out.1
            have k1 : k ≤ 1000 := by have := HM.out; omega
            have kn : k < (n : Int) := by have := HM.out; omega
            have hlt : k.toNat < L.length := by omega
            have eL : rd L k = L[k.toNat] := by simp [rd, List.getD_eq_getElem?_getD, List.getElem?_eq_getElem hlt]
            have hLk := hb _ (List.getElem_mem hlt)
            rw [← eL] at hLk
            have hVe : V = rd L k + wi := by rw [hV]; unfold wrap64; omega
            have hbs : ∀ x ∈ L.set k.toNat V, 0 ≤ x ∧ x ≤ 13000 - 1000 * (d : Int) := by
              intro x hx
              rcases List.mem_or_eq_of_mem_set hx with hx | rfl
              · have := hb x hx; omega
              · omega
            have hrd : rd (L.set k.toNat V) k = V := by
              have hlt2 : k.toNat < (L.set k.toNat V).length := by rw [List.length_set]; exact hlt
              simp [rd, List.getD_eq_getElem?_getD, List.getElem?_eq_getElem hlt2]
            have hback : (L.set k.toNat V).set k.toNat (wrap64 (V - wi)) = L := by
              rw [List.set_set, show wrap64 (V - wi) = L[k.toNat] by rw [← eL, hVe]; unfold wrap64; omega, List.set_getElem_self]
            have HRD := Aside0.mk hrd
            have HBACK := Aside0.mk hback
            have HV := Aside0.mk hV
            obtain ⟨hz0, hf⟩ := Kd.R_celln 0 HI2.out.own k k0 kn
            have hz : wr.cell? ⟨g, k.toNat, none⟩ = some (.int .i64 (rd L k)) := hz0
            clear hz0
            have hcl := HI2.out.cl
            have hcw := HI2.out.cw
            have hx := HXW.out _ HI2.out.below
            have ckb : decide (k < (n : Int)) = true := decide_eq_true ck
            have k0e := eq_true k0
            have kne := eq_true kn
            have HK := Aside0.mk (show k < (n : Int) ∧ ((n : Int) - (k + 1)).toNat = m from ⟨ck, by omega⟩)
            clear hrd hback hLk hVe eL hlt ck hV HL hm
            have cu : ¬ used < k + 1 := by omega
            have hmx : mx used (k + 1) = used := by unfold mx; rw [if_neg cu]
            rw [hmx] at h
            have HL2 := Aside0.mk h
            have hcall := fun (W3 : World) (hi3 : PsInv xs (some ad) c0 n bw bb bl bs bg w0 W3 (L.set k.toNat V) b' g) => ih (i + 1) (used) (L.set k.toNat V) b' g W3 (by have := HIE.out; omega) (by omega) (by omega) (by omega) (by rw [List.length_set]; exact hl) hbs hi3
            have HCALL := Aside0.mk hcall
            obtain ⟨B2, hB2⟩ : ∃ B2, B2 = gv xs n d (used) (L.set k.toNat V) b' := ⟨_, rfl⟩
            rw [← hB2] at HCALL HL2
            clear h hcall hmx hB2
            go_wp2
            go_region
            rw [← HV.out]
            have HI3 := Aside0.mk (HI2.out.setL k V).drew
            have hcg3 := HI3.out.cg
            generalize (wr.setCell ⟨g, k.toNat, none⟩ (.int .i64 V)).drew = W3 at HI3 hcg3 ⊢
            go_wp2_with (go_at_call 60; (with_reducible refine (HCALL.out W3 HI3.out).mono ?_); rintro e w4 ⟨rfl, hi4⟩; have HI4 := Aside0.mk hi4; have hcw4 := hi4.cw; have hcl4 := hi4.cl; obtain ⟨hz4, hf4⟩ := Kd.R_celln 0 hi4.own k k0 kn; replace hz4 : w4.cell? ⟨g, k.toNat, none⟩ = some (.int .i64 V) := (by rw [show rdOf 0 (L.set k.toNat V) k = V from HRD.out] at hz4; exact hz4); have hx4 := HXW.out _ hi4.below; clear hi4)
            go_region
            have HI5 := Aside0.mk (show PsInv xs (some ad) c0 n bw bb bl bs bg w0 (w4.setCell ⟨g, k.toNat, none⟩ (.int .i64 (wrap64 (V - wi)))).drew L B2 g by have h5 := (HI4.out.setL k (wrap64 (V - wi))).drew; rw [HBACK.out] at h5; exact h5)
            go_wp2
            go_roundg gk
            case measure => omega
            case rel => exact ⟨k + 1, B2, by first | rfl | go_num, ⟨by have := HS.out; have := HK.out; omega⟩, ⟨by rw [HK.out.2]; exact HL2.out⟩, HI5⟩
          · have hm0 : ((n : Int) - k).toNat = 0 := by omega
            have h := HL.out
            rw [hm0] at h
            simp only [psLoop] at h
            have HRB := Aside0.mk h
            have ckb : decide (k < (n : Int)) = false := decide_eq_false ck
            clear ck HL h hm0
            go_wp2
            go_end0
            exact ⟨rfl, by rw [← HRB.out]; exact HI2.out⟩
    · have hM : (used + 1) = mn (used + 1) (n : Int) := by unfold mn; rw [if_neg cn]
      have hM1 : 0 ≤ (used + 1) ∧ (used + 1) ≤ n ∧ (used + 1) ≤ used + 1 := by omega
      rw [← hM]
      obtain ⟨R, hR⟩ : ∃ R, R = psLoop (gv xs n d) wi used L ((used + 1)).toNat 0 b := ⟨_, rfl⟩
      rw [← hR]
      have HXW := Aside0.mk hxw
      have HM := Aside0.mk (show (used + 1) = mn (used + 1) (n : Int) ∧ 0 ≤ (used + 1) ∧ (used + 1) ≤ n ∧ (used + 1) ≤ used + 1 from ⟨hM, hM1⟩)
      have HR := Aside0.mk hR
      have HI := Aside0.mk hI
      have hcw := hI.cw
      have hcs := hI.cs
      have i2e := eq_true i2
      clear hxw hM hM1 hR hI hgv hwi hr0 hxc
      go_enter Try.func60, Try.ntmps60
      go_wp2
      go_loopg [22] (n + 1) (fun gg v22 wr => ∃ (k b' : Int), v22 = .int .i64 k ∧ Aside0 (0 ≤ k ∧ k ≤ (used + 1) ∧ (used + 1) - k < (gg : Int)) ∧ Aside0 (psLoop (gv xs n d) wi used L ((used + 1) - k).toNat k b' = R) ∧ Aside0 (PsInv xs (some ad) c0 n bw bb bl bs bg w0 wr L b' g))
      clear hcw hcs
      case atStart => exact ⟨0, b, rfl, ⟨by have := HM.out; omega⟩, ⟨by rw [Int.sub_zero]; exact HR.out.symm⟩, HI⟩
      case round =>
        clear HI
        obtain ⟨k, b', rfl, HS, HL, HI2⟩ := hrel
        cases gk with
        | zero => exact absurd HS.out (by omega)
        | succ gk =>
          by_cases ck : k < (used + 1)
          · obtain ⟨m, hm⟩ : ∃ m, ((used + 1) - k).toNat = m + 1 := ⟨((used + 1) - k).toNat - 1, by omega⟩
            have h := HL.out
            rw [hm] at h
            simp only [psLoop] at h
            obtain ⟨V, hV⟩ : ∃ V, V = wrap64 (rd L k + wi) := ⟨_, rfl⟩
            rw [← hV] at h
            have k0 : 0 ≤ k := HS.out.1
            have k1 : k ≤ 1000 := by have := HM.out; omega
            have kn : k < (n : Int) := by have := HM.out; omega
            have hlt : k.toNat < L.length := by omega
            have eL : rd L k = L[k.toNat] := by simp [rd, List.getD_eq_getElem?_getD, List.getElem?_eq_getElem hlt]
            have hLk := hb _ (List.getElem_mem hlt)
            rw [← eL] at hLk
            have hVe : V = rd L k + wi := by rw [hV]; unfold wrap64; omega
            have hbs : ∀ x ∈ L.set k.toNat V, 0 ≤ x ∧ x ≤ 13000 - 1000 * (d : Int) := by
              intro x hx
              rcases List.mem_or_eq_of_mem_set hx with hx | rfl
              · have := hb x hx; omega
              · omega
            have hrd : rd (L.set k.toNat V) k = V := by
              have hlt2 : k.toNat < (L.set k.toNat V).length := by rw [List.length_set]; exact hlt
              simp [rd, List.getD_eq_getElem?_getD, List.getElem?_eq_getElem hlt2]
            have hback : (L.set k.toNat V).set k.toNat (wrap64 (V - wi)) = L := by
              rw [List.set_set, show wrap64 (V - wi) = L[k.toNat] by rw [← eL, hVe]; unfold wrap64; omega, List.set_getElem_self]
            have HRD := Aside0.mk hrd
            have HBACK := Aside0.mk hback
            have HV := Aside0.mk hV
            obtain ⟨hz0, hf⟩ := Kd.R_celln 0 HI2.out.own k k0 kn
            have hz : wr.cell? ⟨g, k.toNat, none⟩ = some (.int .i64 (rd L k)) := hz0
            clear hz0
            have hcl := HI2.out.cl
            have hcw := HI2.out.cw
            have hx := HXW.out _ HI2.out.below
            have ckb : decide (k < (used + 1)) = true := decide_eq_true ck
            have k0e := eq_true k0
            have kne := eq_true kn
            have HK := Aside0.mk (show k < (used + 1) ∧ ((used + 1) - (k + 1)).toNat = m from ⟨ck, by omega⟩)
            clear hrd hback hLk hVe eL hlt ck hV HL hm
            by_cases cu : used < k + 1
            · have hmx : mx used (k + 1) = k + 1 := by unfold mx; rw [if_pos cu]
              rw [hmx] at h
              have HL2 := Aside0.mk h
              have hcall := fun (W3 : World) (hi3 : PsInv xs (some ad) c0 n bw bb bl bs bg w0 W3 (L.set k.toNat V) b' g) => ih (i + 1) (k + 1) (L.set k.toNat V) b' g W3 (by have := HIE.out; omega) (by omega) (by omega) (by omega) (by rw [List.length_set]; exact hl) hbs hi3
              have HCALL := Aside0.mk hcall
              obtain ⟨B2, hB2⟩ : ∃ B2, B2 = gv xs n d (k + 1) (L.set k.toNat V) b' := ⟨_, rfl⟩
              rw [← hB2] at HCALL HL2
              clear h hcall hmx hB2
              go_wp2
              go_region
              rw [← HV.out]
              have HI3 := Aside0.mk (HI2.out.setL k V).drew
              have hcg3 := HI3.out.cg
              generalize (wr.setCell ⟨g, k.toNat, none⟩ (.int .i64 V)).drew = W3 at HI3 hcg3 ⊢
              go_wp2_with (go_at_call 60; (with_reducible refine (HCALL.out W3 HI3.out).mono ?_); rintro e w4 ⟨rfl, hi4⟩; have HI4 := Aside0.mk hi4; have hcw4 := hi4.cw; have hcl4 := hi4.cl; obtain ⟨hz4, hf4⟩ := Kd.R_celln 0 hi4.own k k0 kn; replace hz4 : w4.cell? ⟨g, k.toNat, none⟩ = some (.int .i64 V) := (by rw [show rdOf 0 (L.set k.toNat V) k = V from HRD.out] at hz4; exact hz4); have hx4 := HXW.out _ hi4.below; clear hi4)
              go_region
              have HI5 := Aside0.mk (show PsInv xs (some ad) c0 n bw bb bl bs bg w0 (w4.setCell ⟨g, k.toNat, none⟩ (.int .i64 (wrap64 (V - wi)))).drew L B2 g by have h5 := (HI4.out.setL k (wrap64 (V - wi))).drew; rw [HBACK.out] at h5; exact h5)
              go_wp2
              go_roundg gk
              case measure => omega
              case rel => exact ⟨k + 1, B2, by first | rfl | go_num, ⟨by have := HS.out; have := HK.out; omega⟩, ⟨by rw [HK.out.2]; exact HL2.out⟩, HI5⟩
            · have hmx : mx used (k + 1) = used := by unfold mx; rw [if_neg cu]
              rw [hmx] at h
              have HL2 := Aside0.mk h
              have hcall := fun (W3 : World) (hi3 : PsInv xs (some ad) c0 n bw bb bl bs bg w0 W3 (L.set k.toNat V) b' g) => ih (i + 1) (used) (L.set k.toNat V) b' g W3 (by have := HIE.out; omega) (by omega) (by omega) (by omega) (by rw [List.length_set]; exact hl) hbs hi3
              have HCALL := Aside0.mk hcall
              obtain ⟨B2, hB2⟩ : ∃ B2, B2 = gv xs n d (used) (L.set k.toNat V) b' := ⟨_, rfl⟩
              rw [← hB2] at HCALL HL2
              clear h hcall hmx hB2
              go_wp2
              go_region
              rw [← HV.out]
              have HI3 := Aside0.mk (HI2.out.setL k V).drew
              have hcg3 := HI3.out.cg
              generalize (wr.setCell ⟨g, k.toNat, none⟩ (.int .i64 V)).drew = W3 at HI3 hcg3 ⊢
              go_wp2_with (go_at_call 60; (with_reducible refine (HCALL.out W3 HI3.out).mono ?_); rintro e w4 ⟨rfl, hi4⟩; have HI4 := Aside0.mk hi4; have hcw4 := hi4.cw; have hcl4 := hi4.cl; obtain ⟨hz4, hf4⟩ := Kd.R_celln 0 hi4.own k k0 kn; replace hz4 : w4.cell? ⟨g, k.toNat, none⟩ = some (.int .i64 V) := (by rw [show rdOf 0 (L.set k.toNat V) k = V from HRD.out] at hz4; exact hz4); have hx4 := HXW.out _ hi4.below; clear hi4)
              go_region
              have HI5 := Aside0.mk (show PsInv xs (some ad) c0 n bw bb bl bs bg w0 (w4.setCell ⟨g, k.toNat, none⟩ (.int .i64 (wrap64 (V - wi)))).drew L B2 g by have h5 := (HI4.out.setL k (wrap64 (V - wi))).drew; rw [HBACK.out] at h5; exact h5)
              go_wp2
              go_roundg gk
              case measure => omega
              case rel => exact ⟨k + 1, B2, by first | rfl | go_num, ⟨by have := HS.out; have := HK.out; omega⟩, ⟨by rw [HK.out.2]; exact HL2.out⟩, HI5⟩
          · have hm0 : ((used + 1) - k).toNat = 0 := by omega
            have h := HL.out
            rw [hm0] at h
            simp only [psLoop] at h
            have HRB := Aside0.mk h
            have ckb : decide (k < (used + 1)) = false := decide_eq_false ck
            clear ck HL h hm0
            go_wp2
            go_end0
            exact ⟨rfl, by rw [← HRB.out]; exact HI2.out⟩

def impl_PoorestShare.f (l0 : List Int) (a1 : Int) : Option (Int × Bool) :=
  if l0.length ≤ 1048576 ∧ (∀ t, impl_AreWeights.f l0 = some t → t = true → l0.length ≤ 12 ∧ ∀ x ∈ l0, 0 ≤ x ∧ x ≤ 1000) then
  ((impl_AreWeights.f l0).bind fun t => if t = true then (if 1 ≤ a1 ∧ a1 ≤ 4 then some (gv l0 a1.toNat l0.length 0 (List.replicate a1.toNat 0) 0, true) else some (0, false)) else some (0, false)) else none
theorem ps_made (m : Nat) : madeCells #[Value.int .i64 0] m = (List.replicate m (Value.int .i64 0)).toArray := by
  apply Array.ext
  · simp [size_madeCells]
  · intro i h1 h2
    simp [madeCells, Nat.mod_one]
theorem ps_three (W : World) (o0 o1 o2 : Obj) : ∃ W3, W3 = (((W.alloc o0).alloc o1).alloc o2).drew ∧ W3.heap[W.heap.size]? = some o0 ∧ W3.heap[W.heap.size + 1]? = some o1 ∧ W3.heap[W.heap.size + 1 + 1]? = some o2 ∧ Below W.heap.size W W3 := by
  have s1 : (W.alloc o0).heap.size = W.heap.size + 1 := by simp
  have s2 : ((W.alloc o0).alloc o1).heap.size = W.heap.size + 1 + 1 := by simp
  have h0 := (MapKept.heap_alloc W o0).1
  have h1 := (MapKept.heap_alloc (W.alloc o0) o1).1
  have h2 := (MapKept.heap_alloc ((W.alloc o0).alloc o1) o2).1
  rw [s1] at h1
  rw [s2] at h2
  have b01 : Below (W.alloc o0).heap.size (W.alloc o0) (((W.alloc o0).alloc o1).alloc o2).drew := below_drew1 (((Below.refl _ _).alloc (Nat.le_refl _) _).alloc (by simp) _)
  have b12 : Below ((W.alloc o0).alloc o1).heap.size ((W.alloc o0).alloc o1) (((W.alloc o0).alloc o1).alloc o2).drew := below_drew1 ((Below.refl _ _).alloc (Nat.le_refl _) _)
  exact ⟨_, rfl, (b01.block _ (blk_lt h0)).trans h0, (b12.block _ (blk_lt h1)).trans h1, h2, below_drew1 ((((Below.refl _ _).alloc (Nat.le_refl _) _).alloc (by simp) _).alloc (by simp <;> omega) _)⟩
theorem cell_of_blk {W : World} {b : Nat} {v : Value} {t : TypeId} (h : W.heap[b]? = some (.cells #[v] t (0, 0))) : W.cell? ⟨b, 0, none⟩ = some v ∧ W.frozen? ⟨b, 0, none⟩ = false := by
  constructor
  · simp [World.cell?, h]
  · simp [World.frozen?, h]
theorem ps_inv {xs : List Int} {A0 : Option Addr} {c0 n : Nat} {w0 w2 W3 : World} (bb bl g : Nat) (h1 : W3.heap[bb]? = some (.cells #[.int .i64 0] 3 (0, 0))) (h2 : W3.heap[bl]? = some (.cells #[.slice (some ⟨g, 0, none⟩) n n] 22 (0, 0)))
    (h3 : W3.heap[g]? = some (.cells (Array.replicate n (.int .i64 0)) 3 (0, 0))) (hn : n ≤ 4) (n1 : bl ≠ bb) (n2 : bl ≠ g) (n3 : g ≠ bb) (b1 : w2.heap.size ≤ bb) (b2 : w2.heap.size ≤ g) (b3 : w2.heap.size ≤ bl)
    (hB : Below w2.heap.size w2 W3) (hB0 : Below w0.heap.size w0 w2) (hc0 : w2.cell? ⟨w0.heap.size, 0, none⟩ = some (.slice A0 xs.length c0)) (hc1 : w2.cell? ⟨w0.heap.size + 1, 0, none⟩ = some (.int .i64 n)) :
    PsInv xs A0 c0 n w0.heap.size bb bl (w0.heap.size + 1) W3.heap.size w0 (W3.alloc (.cells #[.func (.func 60) #[] #[.pointer (some ⟨w0.heap.size, 0, none⟩), .pointer (some ⟨bb, 0, none⟩), .pointer (some ⟨bl, 0, none⟩), .pointer (some ⟨w0.heap.size + 1, 0, none⟩), .pointer (some ⟨W3.heap.size, 0, none⟩)]] 63)) (List.replicate n 0) 0 g := by
  have hb4 := (Below.refl W3.heap.size W3).alloc (Nat.le_refl _) (.cells #[.func (.func 60) #[] #[.pointer (some ⟨w0.heap.size, 0, none⟩), .pointer (some ⟨bb, 0, none⟩), .pointer (some ⟨bl, 0, none⟩), .pointer (some ⟨w0.heap.size + 1, 0, none⟩), .pointer (some ⟨W3.heap.size, 0, none⟩)]] 63)
  have l0 := World.block_lt_of_cell? w2 _ hc0
  have l1 := World.block_lt_of_cell? w2 _ hc1
  have m1 := blk_lt h1
  have m2 := blk_lt h2
  have m3 := blk_lt h3
  have e0 := (hB.cell l0).trans hc0
  have e1 := (hB.cell l1).trans hc1
  have sz := hB.size
  have k0 : w0.heap.size < w2.heap.size := l0
  have k1 : w0.heap.size + 1 < w2.heap.size := l1
  have f1 := (hb4.block bb m1).trans h1
  have f2 := (hb4.block bl m2).trans h2
  have f3 := (hb4.block g m3).trans h3
  refine ⟨(hB0.trans (hB.mono hB0.size)).trans (hb4.mono (Nat.le_trans hB0.size sz)), (hb4.cell (World.block_lt_of_cell? _ _ e0)).trans e0, (cell_of_blk f1).1, (cell_of_blk f1).2, (cell_of_blk f2).1, (hb4.cell (World.block_lt_of_cell? _ _ e1)).trans e1, by simp, ?_, by omega, by omega, ⟨by omega, n1, by omega, by omega, n3⟩, ⟨by omega, n2, by omega, by omega⟩⟩
  exact Kd.R_of_own ⟨by simp [encs], .inr ⟨g, n, Array.replicate n (.int .i64 0), by simp, by omega, f3, by simp, by unfold maxLen; omega, by simp, by simp [encs]⟩⟩ (fun k hk => by simpa [Value.ownBlock, eq_comm] using hk)
theorem run_store_func (P : Program) (w : World) (a : Addr) (m : Mode) (f : Fn) (r cs : Array Value) : (store a (.func f r cs) m).run P w = stored P w a (.func f r cs) m := run_store P w a _ m rfl
attribute [local go_sem] run_store_func
set_option maxHeartbeats 4000000 in
set_option maxRecDepth 100000 in
theorem impl_PoorestShare.calls (A0 : Option Addr) (c0 : Nat) (l0 : List Int) (a1 : Int) (r1 : Int) (r2 : Bool) (w : World) (hr0 : Kd.C (Kd.int .i64) w A0 l0.length l0) (hc0 : l0.length ≤ c0) (h : impl_PoorestShare.f l0 a1 = some (r1, r2)) :
    Calls Try.prog 29 #[.slice A0 l0.length c0, .int .i64 a1] w fun e w' => e = .returned (.tuple #[.int .i64 r1, .bool r2]) ∧ Below w.heap.size w w' := by
  unfold impl_PoorestShare.f at h
  by_cases hx : l0.length ≤ 1048576 ∧ (∀ t, impl_AreWeights.f l0 = some t → t = true → l0.length ≤ 12 ∧ ∀ x ∈ l0, 0 ≤ x ∧ x ≤ 1000)
  · rw [if_pos hx] at h
    obtain ⟨t, ht, hx2⟩ := Option.bind_eq_some_iff.mp h
    clear h
    have hW2 := (((Below.refl w.heap.size w).alloc (Nat.le_refl _) (.cells #[.slice A0 l0.length c0] 22)).alloc (by simp) (.cells #[.int .i64 a1] 3))
    have HC := Aside0.mk (impl_AreWeights.calls A0 c0 l0 t _ (Kd.C_below hr0 hW2) hc0 ht)
    have hcell0 : ((w.alloc (.cells #[.slice A0 l0.length c0] 22)).alloc (.cells #[.int .i64 a1] 3)).cell? ⟨w.heap.size, 0, none⟩ = some (.slice A0 l0.length c0) := by simp
    have hcell1 : ((w.alloc (.cells #[.slice A0 l0.length c0] 22)).alloc (.cells #[.int .i64 a1] 3)).cell? ⟨w.heap.size + 1, 0, none⟩ = some (.int .i64 a1) := by simp
    have HW2 := Aside0.mk hW2
    have HC0 := Aside0.mk hcell0
    have HC1 := Aside0.mk hcell1
    cases t with
    | false =>
      simp at hx2
      obtain ⟨rfl, rfl⟩ := hx2
      clear hr0 hW2 hcell0 hcell1 hx ht
      go_enter Try.func29, Try.ntmps29
      go_wp2_with (go_at_call 17; (with_reducible refine HC.out.mono ?_); rintro e w' ⟨rfl, hb⟩)
      go_ret2
      exact ⟨rfl, HW2.out.trans (hb.mono HW2.out.size)⟩
    | true =>
      obtain ⟨hx12, hxs⟩ := hx.2 true ht rfl
      by_cases ha : 1 ≤ a1 ∧ a1 ≤ 4
      · obtain ⟨n, rfl⟩ := Int.eq_ofNat_of_zero_le (show 0 ≤ a1 by omega)
        rw [if_pos rfl, if_pos ha, Int.toNat_natCast] at hx2
        obtain ⟨R, hR⟩ : ∃ R, R = gv l0 n l0.length 0 (List.replicate n 0) 0 := ⟨_, rfl⟩
        rw [← hR] at hx2
        simp only [Option.some.injEq, Prod.mk.injEq] at hx2
        obtain ⟨rfl, rfl⟩ := hx2
        have hv : impl_within.f (n : Int) 1 4 = some true := by unfold impl_within.f; rw [if_pos ha.1, decide_eq_true ha.2]
        have HV := Aside0.mk hv
        obtain ⟨i0, hi, hz0, hz1, hz2⟩ := info_parts info3
        have hmk : ∀ W : World, (Instr.makeSlice 22 (.int .i64 (n : Int)) (.int .i64 (n : Int))).run Try.prog W = .ok (.slice (some ⟨W.heap.size, 0, none⟩) n n) (W.alloc (.cells (List.replicate n (Value.int .i64 0)).toArray 3)) := by
          intro W
          have h := run_make (P := Try.prog) W 22 3 i0 (Value.int .i64 0) Try.underlying22 hi hz0 .i64 .i64 (n : Int) (n : Int) (by omega) (by omega) (by rw [hz2]; omega) (by omega)
          simp only [Int.toNat_natCast] at h
          rw [hz1, Nat.mul_one] at h
          rw [h]
          show Result.ok _ (W.alloc (.cells (madeCells #[Value.int .i64 0] n) 3)) = _
          rw [ps_made]
        have HGIVE := Aside0.mk (fun (bw bb bl bs bg g : Nat) (W : World) => ps_give l0 A0 c0 n bw bb bl bs bg w hr0 hc0 hx12 (by omega) (by omega) hxs l0.length 0 0 (List.replicate n 0) 0 g W (by omega) (Nat.le_refl _) (by omega) (by omega) (by simp) (fun x hx => by rw [List.eq_of_mem_replicate hx]; omega))
        rw [← hR] at HGIVE
        clear hr0 hW2 hcell0 hcell1 hx ht hR hv hi hz0 hz1 hz2 hxs
        go_enter Try.func29, Try.ntmps29
        go_wp2_with (first
          | (go_at_call 17; (with_reducible refine HC.out.mono ?_); rintro e w1 ⟨rfl, hb1⟩; have hc1 := (hb1.cell (World.block_lt_of_cell? _ _ HC1.out)).trans HC1.out; have hc10 := (hb1.cell (World.block_lt_of_cell? _ _ HC0.out)).trans HC0.out; have HB1 := Aside0.mk (HW2.out.trans (hb1.mono HW2.out.size)))
          | (go_at_call 47; (with_reducible refine (impl_within.calls _ _ _ true _ HV.out).mono ?_); rintro e w2 ⟨rfl, hd2⟩; have hc2 := (hd2.below.cell (World.block_lt_of_cell? _ _ hc1)).trans hc1; have hc20 := (hd2.below.cell (World.block_lt_of_cell? _ _ hc10)).trans hc10; have HB2 := Aside0.mk (HB1.out.trans (hd2.below.mono HB1.out.size))))
        have hlt2 : w.heap.size + 1 < w2.heap.size := World.block_lt_of_cell? _ _ hc2
        have hlt1 : w.heap.size < w2.heap.size := by omega
        go_region
        · obtain ⟨W3, hW3, e0, e1, e2, eB⟩ := ps_three w2 _ _ _
          rw [← hW3]
          have HI := Aside0.mk (ps_inv (xs := l0) (A0 := A0) (c0 := c0) (n := n) (w0 := w) (W3 := W3) (w2.heap.size + 1) (w2.heap.size + 1 + 1) (w2.heap.size) e1 e2 e0 (by omega) (by omega) (by omega) (by omega) (by omega) (by omega) (by omega) eB HB2.out hc20 hc2)
          clear hW3 e0 e1 e2 eB
          go_wp2_with (go_at_call 60; (with_reducible refine (HGIVE.out _ _ _ _ _ _ _ HI.out).mono ?_); rintro e w5 ⟨rfl, hi5⟩; have hcb5 := hi5.cb)
          go_ret2
          exact ⟨rfl, hi5.below⟩
        · obtain ⟨W3, hW3, e0, e1, e2, eB⟩ := ps_three w2 _ _ _
          rw [← hW3]
          have HI := Aside0.mk (ps_inv (xs := l0) (A0 := A0) (c0 := c0) (n := n) (w0 := w) (W3 := W3) (w2.heap.size + 1 + 1) (w2.heap.size + 1) (w2.heap.size) e2 e1 e0 (by omega) (by omega) (by omega) (by omega) (by omega) (by omega) (by omega) eB HB2.out hc20 hc2)
          clear hW3 e0 e1 e2 eB
          go_wp2_with (go_at_call 60; (with_reducible refine (HGIVE.out _ _ _ _ _ _ _ HI.out).mono ?_); rintro e w5 ⟨rfl, hi5⟩; have hcb5 := hi5.cb)
          go_ret2
          exact ⟨rfl, hi5.below⟩
        · obtain ⟨W3, hW3, e0, e1, e2, eB⟩ := ps_three w2 _ _ _
          rw [← hW3]
          have HI := Aside0.mk (ps_inv (xs := l0) (A0 := A0) (c0 := c0) (n := n) (w0 := w) (W3 := W3) (w2.heap.size) (w2.heap.size + 1 + 1) (w2.heap.size + 1) e0 e2 e1 (by omega) (by omega) (by omega) (by omega) (by omega) (by omega) (by omega) eB HB2.out hc20 hc2)
          clear hW3 e0 e1 e2 eB
          go_wp2_with (go_at_call 60; (with_reducible refine (HGIVE.out _ _ _ _ _ _ _ HI.out).mono ?_); rintro e w5 ⟨rfl, hi5⟩; have hcb5 := hi5.cb)
          go_ret2
          exact ⟨rfl, hi5.below⟩
        · obtain ⟨W3, hW3, e0, e1, e2, eB⟩ := ps_three w2 _ _ _
          rw [← hW3]
          have HI := Aside0.mk (ps_inv (xs := l0) (A0 := A0) (c0 := c0) (n := n) (w0 := w) (W3 := W3) (w2.heap.size) (w2.heap.size + 1) (w2.heap.size + 1 + 1) e0 e1 e2 (by omega) (by omega) (by omega) (by omega) (by omega) (by omega) (by omega) eB HB2.out hc20 hc2)
          clear hW3 e0 e1 e2 eB
          go_wp2_with (go_at_call 60; (with_reducible refine (HGIVE.out _ _ _ _ _ _ _ HI.out).mono ?_); rintro e w5 ⟨rfl, hi5⟩; have hcb5 := hi5.cb)
          go_ret2
          exact ⟨rfl, hi5.below⟩
        · obtain ⟨W3, hW3, e0, e1, e2, eB⟩ := ps_three w2 _ _ _
          rw [← hW3]
          have HI := Aside0.mk (ps_inv (xs := l0) (A0 := A0) (c0 := c0) (n := n) (w0 := w) (W3 := W3) (w2.heap.size + 1 + 1) (w2.heap.size) (w2.heap.size + 1) e2 e0 e1 (by omega) (by omega) (by omega) (by omega) (by omega) (by omega) (by omega) eB HB2.out hc20 hc2)
          clear hW3 e0 e1 e2 eB
          go_wp2_with (go_at_call 60; (with_reducible refine (HGIVE.out _ _ _ _ _ _ _ HI.out).mono ?_); rintro e w5 ⟨rfl, hi5⟩; have hcb5 := hi5.cb)
          go_ret2
          exact ⟨rfl, hi5.below⟩
        · obtain ⟨W3, hW3, e0, e1, e2, eB⟩ := ps_three w2 _ _ _
          rw [← hW3]
          have HI := Aside0.mk (ps_inv (xs := l0) (A0 := A0) (c0 := c0) (n := n) (w0 := w) (W3 := W3) (w2.heap.size + 1) (w2.heap.size) (w2.heap.size + 1 + 1) e1 e0 e2 (by omega) (by omega) (by omega) (by omega) (by omega) (by omega) (by omega) eB HB2.out hc20 hc2)
          clear hW3 e0 e1 e2 eB
          go_wp2_with (go_at_call 60; (with_reducible refine (HGIVE.out _ _ _ _ _ _ _ HI.out).mono ?_); rintro e w5 ⟨rfl, hi5⟩; have hcb5 := hi5.cb)
          go_ret2
          exact ⟨rfl, hi5.below⟩
      · have hv : impl_within.f a1 1 4 = some false := by
          unfold impl_within.f
          by_cases c2 : 1 ≤ a1
          · rw [if_pos c2, decide_eq_false (fun c3 => ha ⟨c2, c3⟩)]
          · rw [if_neg c2]
        rw [if_pos rfl, if_neg ha] at hx2
        simp at hx2
        obtain ⟨rfl, rfl⟩ := hx2
        have HV := Aside0.mk hv
        clear hr0 hW2 hcell0 hcell1 hx ht hv ha
        go_enter Try.func29, Try.ntmps29
        go_wp2_with (first
          | (go_at_call 17; (with_reducible refine HC.out.mono ?_); rintro e w1 ⟨rfl, hb1⟩; have hc1 := (hb1.cell (World.block_lt_of_cell? _ _ HC1.out)).trans HC1.out)
          | (go_at_call 47; (with_reducible refine (impl_within.calls _ _ _ false _ HV.out).mono ?_); rintro e w2 ⟨rfl, hd2⟩))
        go_ret2
        exact ⟨rfl, (HW2.out.trans (hb1.mono HW2.out.size)).trans (hd2.below.mono (Nat.le_trans HW2.out.size hb1.size))⟩
  · rw [if_neg hx] at h
    cases h

end Go.Proofs.Ytnppcpjkjepfeaa.V
