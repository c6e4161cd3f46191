-- Laid by a program of this session (wip/pp.py) over the seat's translation, with its own texts for some functions.
import Derived.Test.YtnppcpjkjepfeaaL0
import Derived.Test.YtnppcpjkjepfeaaL4
namespace Go.Proofs.Ytnppcpjkjepfeaa.L
open Go.RowKit Go.Proofs.YtnppcpjkjepfeaaW.PrintWords Go.Proofs.YtnppcpjkjepfeaaW.PrintLast Go.Proofs.YtnppcpjkjepfeaaW.PrintMore
attribute [local go_sem] max2_int min2_int max_two min_two max_three min_three max_four min_four   -- for this text's walks alone
set_option linter.unusedVariables false
set_option linter.unusedSimpArgs false

/-! ### impl_evenest: function 63 -/
/-- One half more. -/
def evStep (s : List Int × Int × Int) (half : List Int) (apart : Int) : List Int × Int × Int :=
  if s.2.2 = 0 ∨ apart < s.2.1 then (half, apart, 1) else if apart = s.2.1 then (s.1, s.2.1, wrap64 (s.2.2 + 1)) else s
/-- By how much two halves differ, of which one has so much. -/
def evApart (all own : Int) : Int := mx (wrap64 (wrap64 (2 * own) - all)) (wrap64 (all - wrap64 (2 * own)))
/-- What stands behind all halves that go on from one with the last d bars left. -/
def evGo (xs : List Int) (all : Int) : Nat → List Int → Int → List Int × Int × Int → List Int × Int × Int
  | 0, _, _, s => s
  | d + 1, half, own, s => evGo xs all d half own (evGo xs all d (half ++ [(xs.length : Int) - (d + 1 : Nat)]) (wrap64 (own + rd xs ((xs.length : Int) - (d + 1 : Nat))))
      (evStep s (half ++ [(xs.length : Int) - (d + 1 : Nat)]) (evApart all (wrap64 (own + rd xs ((xs.length : Int) - (d + 1 : Nat)))))))
/-- The three boxes. -/
structure EvBox (bb bl bm : Nat) (W : World) (v : Value) (s : List Int × Int × Int) : Prop where
  cb : W.cell? ⟨bb, 0, none⟩ = some v
  fb : W.frozen? ⟨bb, 0, none⟩ = false
  cl : W.cell? ⟨bl, 0, none⟩ = some (.int .i64 s.2.1)
  fl : W.frozen? ⟨bl, 0, none⟩ = false
  cm : W.cell? ⟨bm, 0, none⟩ = some (.int .i64 s.2.2)
  fm : W.frozen? ⟨bm, 0, none⟩ = false
/-- Nothing but the three boxes has turned. -/
def Kept3 (bb bl bm : Nat) (W W' : World) : Prop := W.heap.size ≤ W'.heap.size ∧ ∀ k, k < W.heap.size → k ≠ bb → k ≠ bl → k ≠ bm → W'.heap[k]? = W.heap[k]?
theorem Kept3.refl (bb bl bm : Nat) (W : World) : Kept3 bb bl bm W W := ⟨Nat.le_refl _, fun _ _ _ _ _ => rfl⟩
theorem Kept3.trans {bb bl bm : Nat} {W W1 W2 : World} (h : Kept3 bb bl bm W W1) (h' : Kept3 bb bl bm W1 W2) : Kept3 bb bl bm W W2 :=
  ⟨Nat.le_trans h.1 h'.1, fun k h1 h2 h3 h4 => (h'.2 k (Nat.lt_of_lt_of_le h1 h.1) h2 h3 h4).trans (h.2 k h1 h2 h3 h4)⟩
theorem Kept3.below {bb bl bm : Nat} {W W1 : World} (h : Below W.heap.size W W1) : Kept3 bb bl bm W W1 := ⟨h.size, fun k h1 _ _ _ => h.block k h1⟩
theorem Kept3.set {bb bl bm : Nat} {W : World} (p : Addr) (v : Value) (h : p.block = bb ∨ p.block = bl ∨ p.block = bm) : Kept3 bb bl bm W (W.setCell p v) :=
  ⟨by simp, fun k _ h2 h3 h4 => Below.heap_setCell W p v k (by rcases h with h | h | h <;> rw [h] <;> assumption)⟩
theorem ev_far {W : World} {p q : Addr} {u v : Value} (h : W.cell? q = some v) (hne : q.block ≠ p.block) : (W.setCell p u).cell? q = some v :=
  (World.cell?_of_block (Below.heap_setCell W p u _ hne)).trans h
theorem Kept3.cell {bb bl bm : Nat} {W W' : World} (h : Kept3 bb bl bm W W') {b : Nat} {v : Value} (hc : W.cell? ⟨b, 0, none⟩ = some v) (h1 : b ≠ bb) (h2 : b ≠ bl) (h3 : b ≠ bm) : W'.cell? ⟨b, 0, none⟩ = some v :=
  (World.cell?_of_block (h.2 b (World.block_lt_of_cell? W _ hc) h1 h2 h3)).trans hc
structure HvInv (xs : List Int) (A0 : Option Addr) (c0 : Nat) (all : Int) (bb bl bm bw be ba bd : Nat) (w0 W : World) (v : Value) (s : List Int × Int × Int) : Prop where
  below : Below w0.heap.size w0 W
  box : EvBox bb bl bm W v s
  cw : W.cell? ⟨bw, 0, none⟩ = some (.slice A0 xs.length c0)
  ce : W.cell? ⟨be, 0, none⟩ = some (.func (.func 81) #[] #[.pointer (some ⟨bm, 0, none⟩), .pointer (some ⟨bl, 0, none⟩), .pointer (some ⟨bb, 0, none⟩)])
  ca : W.cell? ⟨ba, 0, none⟩ = some (.int .i64 all)
  cd : W.cell? ⟨bd, 0, none⟩ = some (.func (.func 88) #[] #[.pointer (some ⟨be, 0, none⟩), .pointer (some ⟨ba, 0, none⟩), .pointer (some ⟨bw, 0, none⟩), .pointer (some ⟨bd, 0, none⟩)])
  own : Kd.R (Kd.int .i64) 3 W w0.heap.size (fun k => k ≠ bb ∧ k ≠ bl ∧ k ≠ bm) v s.1
  hb : w0.heap.size ≤ bb ∧ w0.heap.size ≤ bl ∧ w0.heap.size ≤ bm
  n3 : bb ≠ bl ∧ bb ≠ bm ∧ bl ≠ bm
  nw : bw ≠ bb ∧ bw ≠ bl ∧ bw ≠ bm
  ne : be ≠ bb ∧ be ≠ bl ∧ be ≠ bm
  na : ba ≠ bb ∧ ba ≠ bl ∧ ba ≠ bm
  nd : bd ≠ bb ∧ bd ≠ bl ∧ bd ≠ bm
section
variable {xs : List Int} {A0 : Option Addr} {c0 : Nat} {all : Int} {bb bl bm bw be ba bd : Nat} {w0 W W' : World} {v hv : Value} {s : List Int × Int × Int} {half : List Int}
theorem HvInv.kept (h : HvInv xs A0 c0 all bb bl bm bw be ba bd w0 W v s) (hB : Below W.heap.size W W') : HvInv xs A0 c0 all bb bl bm bw be ba bd w0 W' v s :=
  ⟨h.below.trans (hB.mono h.below.size), ⟨(hB.cell (World.block_lt_of_cell? W _ h.box.cb)).trans h.box.cb, (World.frozen?_of_block (hB.block _ (World.block_lt_of_cell? W _ h.box.cb))).trans h.box.fb, (hB.cell (World.block_lt_of_cell? W _ h.box.cl)).trans h.box.cl, (World.frozen?_of_block (hB.block _ (World.block_lt_of_cell? W _ h.box.cl))).trans h.box.fl, (hB.cell (World.block_lt_of_cell? W _ h.box.cm)).trans h.box.cm, (World.frozen?_of_block (hB.block _ (World.block_lt_of_cell? W _ h.box.cm))).trans h.box.fm⟩,
    (hB.cell (World.block_lt_of_cell? W _ h.cw)).trans h.cw, (hB.cell (World.block_lt_of_cell? W _ h.ce)).trans h.ce, (hB.cell (World.block_lt_of_cell? W _ h.ca)).trans h.ca, (hB.cell (World.block_lt_of_cell? W _ h.cd)).trans h.cd, Kd.R_below h.own hB, h.hb, h.n3, h.nw, h.ne, h.na, h.nd⟩
theorem HvInv.drew (h : HvInv xs A0 c0 all bb bl bm bw be ba bd w0 W v s) : HvInv xs A0 c0 all bb bl bm bw be ba bd w0 W.drew v s := h.kept (below_drew1 (Below.refl _ _))
theorem HvInv.setM (h : HvInv xs A0 c0 all bb bl bm bw be ba bd w0 W v s) (m : Int) : HvInv xs A0 c0 all bb bl bm bw be ba bd w0 (W.setCell ⟨bm, 0, none⟩ (.int .i64 m)) v (s.1, s.2.1, m) :=
  ⟨h.below.setCell h.hb.2.2 _, ⟨ev_far h.box.cb h.n3.2.1, by rw [World.frozen?_setCell]; exact h.box.fb, ev_far h.box.cl h.n3.2.2, by rw [World.frozen?_setCell]; exact h.box.fl, World.cell?_setCell_same' _ _ _ (by rw [h.box.cm]; rfl), by rw [World.frozen?_setCell]; exact h.box.fm⟩,
    ev_far h.cw h.nw.2.2, ev_far h.ce h.ne.2.2, ev_far h.ca h.na.2.2, ev_far h.cd h.nd.2.2, Kd.R_far h.own (fun k hk => hk.2.2) _, h.hb, h.n3, h.nw, h.ne, h.na, h.nd⟩
theorem HvInv.setL (h : HvInv xs A0 c0 all bb bl bm bw be ba bd w0 W v s) (m : Int) : HvInv xs A0 c0 all bb bl bm bw be ba bd w0 (W.setCell ⟨bl, 0, none⟩ (.int .i64 m)) v (s.1, m, s.2.2) :=
  ⟨h.below.setCell h.hb.2.1 _, ⟨ev_far h.box.cb h.n3.1, by rw [World.frozen?_setCell]; exact h.box.fb, World.cell?_setCell_same' _ _ _ (by rw [h.box.cl]; rfl), by rw [World.frozen?_setCell]; exact h.box.fl, ev_far h.box.cm (Ne.symm h.n3.2.2), by rw [World.frozen?_setCell]; exact h.box.fm⟩,
    ev_far h.cw h.nw.2.1, ev_far h.ce h.ne.2.1, ev_far h.ca h.na.2.1, ev_far h.cd h.nd.2.1, Kd.R_far h.own (fun k hk => hk.2.1) _, h.hb, h.n3, h.nw, h.ne, h.na, h.nd⟩
theorem HvInv.setB (h : HvInv xs A0 c0 all bb bl bm bw be ba bd w0 W v s) (hr : Kd.R (Kd.int .i64) 3 W w0.heap.size (fun k => k ≠ bb ∧ k ≠ bl ∧ k ≠ bm) hv half) (hone : hv.oneCell' = true) : HvInv xs A0 c0 all bb bl bm bw be ba bd w0 (W.setCell ⟨bb, 0, none⟩ hv) hv (half, s.2.1, s.2.2) :=
  ⟨h.below.setCell h.hb.1 _, ⟨World.cell?_setCell_same' _ _ _ (by rw [h.box.cb]; rfl), by rw [World.frozen?_setCell]; exact h.box.fb, ev_far h.box.cl (Ne.symm h.n3.1), by rw [World.frozen?_setCell]; exact h.box.fl, ev_far h.box.cm (Ne.symm h.n3.2.1), by rw [World.frozen?_setCell]; exact h.box.fm⟩,
    ev_far h.cw h.nw.1, ev_far h.ce h.ne.1, ev_far h.ca h.na.1, ev_far h.cd h.nd.1, Kd.R_far hr (fun k hk => hk.1) _, h.hb, h.n3, h.nw, h.ne, h.na, h.nd⟩
end
def halves1.T4 : Bool × List (List Nat × List Nat) := (true, [([], []), ([], []), ([1], [1]), ([], []), ([3], [3]), ([2, 4, 2], [2, 4]), ([], []), ([], []), ([], []), ([7, 8], [7, 8]), ([9], [9]), ([6, 10], [6, 10]), ([0, 5, 11, 5], [0, 5, 11])])
def halves1.B4 : List Nat := [0, 0, 2, 0, 8, 30, 0, 0, 0, 384, 896, 1984, 4095]
theorem halves1.tab4 : rtab .any (opsOf Try.f88 4) = halves1.T4 := by kernel_rfl
theorem halves1.bits4 : waitsOk halves1.T4.2 halves1.B4 = true := by kernel_rfl
/-- What stands behind a call. -/
def HvPost (xs : List Int) (A0 : Option Addr) (c0 : Nat) (all : Int) (bb bl bm bw be ba bd : Nat) (w0 W : World) (s : List Int × Int × Int) (W' : World) : Prop := ∃ v', HvInv xs A0 c0 all bb bl bm bw be ba bd w0 W' v' s ∧ Kept3 bb bl bm W W'
set_option maxHeartbeats 4000000 in
set_option maxRecDepth 100000 in
/-- The closure that is told of each half. -/
theorem ev_each (xs : List Int) (A0 : Option Addr) (c0 : Nat) (all : Int) (bb bl bm bw be ba bd : Nat) (w0 W : World) (v hv : Value) (s : List Int × Int × Int) (half : List Int) (apart : Int) (hI : HvInv xs A0 c0 all bb bl bm bw be ba bd w0 W v s)
    (hr : Kd.R (Kd.int .i64) 3 W w0.heap.size (fun k => k ≠ bb ∧ k ≠ bl ∧ k ≠ bm) hv half) :
    Calls Try.prog 81 #[hv, .int .i64 apart, .pointer (some ⟨bm, 0, none⟩), .pointer (some ⟨bl, 0, none⟩), .pointer (some ⟨bb, 0, none⟩)] W
      fun e w' => e = .returned (.tuple #[]) ∧ HvPost xs A0 c0 all bb bl bm bw be ba bd w0 W (evStep s half apart) w' := by
  obtain ⟨b, l, m⟩ := s
  obtain ⟨A, c, rfl⟩ := Kd.R_slice hr
  have hcb := hI.box.cb
  have hfb := hI.box.fb
  have hcl := hI.box.cl
  have hfl := hI.box.fl
  have hcm := hI.box.cm
  have hfm := hI.box.fm
  have n1 := hI.n3.1
  have n2 := hI.n3.2.1
  have n3 := hI.n3.2.2
  have k3 : Kept3 bb bl bm W (((W.setCell ⟨bb, 0, none⟩ (.slice A half.length c)).setCell ⟨bl, 0, none⟩ (.int .i64 apart)).setCell ⟨bm, 0, none⟩ (.int .i64 1)) :=
    ((Kept3.set _ _ (.inl rfl)).trans (Kept3.set _ _ (.inr (.inl rfl)))).trans (Kept3.set _ _ (.inr (.inr rfl)))
  have HI := Aside0.mk hI
  have HK3 := Aside0.mk k3
  have HTOOK := Aside0.mk (((hI.setB hr rfl).setL apart).setM 1)
  clear hI hr k3
  simp only [] at hcl hcm
  by_cases c1 : m = 0
  · have e : evStep (b, l, m) half apart = (half, apart, 1) := by unfold evStep; rw [if_pos (.inl c1)]
    rw [e]
    have c1b : (m == 0) = true := beq_iff_eq.mpr c1
    clear c1 e
    go_enter Try.func81, Try.ntmps81
    go_wp2
    go_end0
    exact ⟨rfl, ⟨_, HTOOK.out, HK3.out⟩⟩
  · have c1b : (m == 0) = false := beq_eq_false_iff_ne.mpr c1
    by_cases c2 : apart < l
    · have e : evStep (b, l, m) half apart = (half, apart, 1) := by unfold evStep; rw [if_pos (.inr c2)]
      rw [e]
      have c2b : decide (apart < l) = true := decide_eq_true c2
      clear c1 c2 e
      go_enter Try.func81, Try.ntmps81
      go_wp2
      go_end0
      exact ⟨rfl, ⟨_, HTOOK.out, HK3.out⟩⟩
    · have c2b : decide (apart < l) = false := decide_eq_false c2
      have hnot : ¬ (m = 0 ∨ apart < l) := by omega
      by_cases c3 : apart = l
      · have e : evStep (b, l, m) half apart = (b, l, wrap64 (m + 1)) := by unfold evStep; rw [if_neg hnot, if_pos c3]
        rw [e]
        have c3b : (apart == l) = true := beq_iff_eq.mpr c3
        clear c1 c2 c3 e hnot HTOOK HK3
        go_enter Try.func81, Try.ntmps81
        go_wp2
        go_end0
        exact ⟨rfl, ⟨_, HI.out.setM _, Kept3.set _ _ (.inr (.inr rfl))⟩⟩
      · have e : evStep (b, l, m) half apart = (b, l, m) := by unfold evStep; rw [if_neg hnot, if_neg c3]
        rw [e]
        have c3b : (apart == l) = false := beq_eq_false_iff_ne.mpr c3
        clear c1 c2 c3 e hnot HTOOK HK3
        go_enter Try.func81, Try.ntmps81
        go_wp2
        go_end0
        exact ⟨rfl, ⟨_, HI.out, Kept3.refl _ _ _ _⟩⟩
set_option maxHeartbeats 4000000 in
set_option maxRecDepth 100000 in
/-- The closure that goes through all halves that go on from one. -/
theorem hv_add (xs : List Int) (A0 : Option Addr) (c0 : Nat) (all : Int) (bb bl bm bw be ba bd : Nat) (w0 : World) (hr0 : Kd.C (Kd.int .i64) w0 A0 xs.length xs) (hc0 : xs.length ≤ c0) (hx : xs.length ≤ 12) (d : Nat) :
    ∀ (half : List Int) (own : Int) (hv : Value) (W : World) (v : Value) (s : List Int × Int × Int), d + 1 ≤ xs.length → 0 < half.length → half.length ≤ 1000 - d → rd half ((half.length : Int) - 1) = (xs.length : Int) - (d + 1 : Nat) → HvInv xs A0 c0 all bb bl bm bw be ba bd w0 W v s →
    Kd.R (Kd.int .i64) 3 W w0.heap.size (fun k => k ≠ bb ∧ k ≠ bl ∧ k ≠ bm) hv half →
    Calls Try.prog 88 #[hv, .int .i64 own, .pointer (some ⟨be, 0, none⟩), .pointer (some ⟨ba, 0, none⟩), .pointer (some ⟨bw, 0, none⟩), .pointer (some ⟨bd, 0, none⟩)] W
      fun e w' => e = .returned (.tuple #[]) ∧ HvPost xs A0 c0 all bb bl bm bw be ba bd w0 W (evGo xs all d half own (evStep s half (evApart all own))) w' := by
  induction d using Nat.strongRecOn with
  | _ d ih =>
  intro half own hv W v s hd hl hl2 hlast hI hr
  obtain ⟨A, c, rfl⟩ := Kd.R_slice hr
  have hce := hI.ce
  have hca := hI.ca
  have HEACH := Aside0.mk (fun (a : Int) => ev_each xs A0 c0 all bb bl bm bw be ba bd w0 W v _ s half a hI hr)
  obtain ⟨R, hR⟩ : ∃ R, R = evGo xs all d half own (evStep s half (evApart all own)) := ⟨_, rfl⟩
  rw [← hR]
  have HR := Aside0.mk hR
  have HRH := Aside0.mk hr
  have HIH := Aside0.mk ih
  have HF := Aside0.mk (show d + 1 ≤ xs.length ∧ 0 < half.length ∧ half.length ≤ 1000 - d from ⟨hd, hl, hl2⟩)
  have HLAST := Aside0.mk hlast
  have hw1 : wrap64 ((half.length : Int) - 1) = (half.length : Int) - 1 := by unfold wrap64; omega
  have HW1 := Aside0.mk hw1
  have HW2 := Aside0.mk (show wrap64 ((xs.length : Int) - ((d : Int) + 1) + 1) = (xs.length : Int) - (d : Nat) by unfold wrap64; omega)
  have HX := Aside0.mk hx
  have HR0 := Aside0.mk hr0
  have HC0 := Aside0.mk hc0
  have hmx : (if wrap64 (wrap64 (2 * own) - all) < wrap64 (all - wrap64 (2 * own)) then wrap64 (all - wrap64 (2 * own)) else wrap64 (wrap64 (2 * own) - all)) = evApart all own := rfl
  clear hI hR hr ih hd hl hl2 hlast hx hr0 hc0 hw1
  go_enter Try.func88, Try.ntmps88
  go_wp2_with (go_at_call 81; (with_reducible refine (HEACH.out _).mono ?_); rintro e w1 ⟨rfl, hp⟩; obtain ⟨v1, hi1, hk1⟩ := hp; have HI1 := Aside0.mk (show HvInv xs A0 c0 all bb bl bm bw be ba bd w0 w1 v1 (evStep s half (evApart all own)) from hi1); have HK1 := Aside0.mk hk1; have hr1 := Kd.R_step HRH.out (fun k hk hlt => hk1.2 k hlt hk.1 hk.2.1 hk.2.2); obtain ⟨ad, e1, hx1⟩ := Kd.at_int (Kd.R_reads' hr1).2.2 (wrap64 ((half.length : Int) - 1)) (by rw [HW1.out]; have := HF.out; omega) (by rw [HW1.out]; have := HF.out; omega); cases e1; rw [show rd half (wrap64 ((half.length : Int) - 1)) = (xs.length : Int) - (d + 1 : Nat) by rw [HW1.out]; exact HLAST.out] at hx1; have HR1 := Aside0.mk hr1; have p1 := eq_true (show 0 ≤ wrap64 ((half.length : Int) - 1) by rw [HW1.out]; have := HF.out; omega); have q1 := eq_true (show wrap64 ((half.length : Int) - 1) < (half.length : Int) by rw [HW1.out]; have := HF.out; omega); clear hi1 hk1 hr1)
  have hcw1 := HI1.out.cw
  clear hce hca hmx hx1 p1 q1
  go_loopg [8] (d + 1) (fun gg v8 wr => ∃ (e : Nat) (v' : Value) (s' : List Int × Int × Int), v8 = .int .i64 ((xs.length : Int) - (e : Nat)) ∧ Aside0 (e ≤ d ∧ e < gg) ∧ Aside0 (evGo xs all e half own s' = R) ∧ Aside0 (HvInv xs A0 c0 all bb bl bm bw be ba bd w0 wr v' s') ∧ Aside0 (Kept3 bb bl bm W wr))
  case atStart => exact ⟨d, v1, _, by rw [HW2.out], ⟨Nat.le_refl _, Nat.lt_succ_self _⟩, ⟨HR.out.symm⟩, HI1, HK1⟩
  case round =>
    clear hcw1 HI1 HK1 HR1
    obtain ⟨e, v', s', rfl, HS, HL, HI2, HK2⟩ := hrel
    cases gk with
    | zero => exact absurd HS.out (by omega)
    | succ gk =>
      cases e with
      | zero =>
        have hcw2 := HI2.out.cw
        have cb : decide ((xs.length : Int) - ((0 : Nat) : Int) < (xs.length : Int)) = false := decide_eq_false (by omega)
        go_wp2
        go_end0
        exact ⟨rfl, ⟨v', by rw [← HL.out]; exact HI2.out, HK2.out⟩⟩
      | succ e =>
        have hen := HS.out.1
        have hxx := HX.out
        have hdd := HF.out.1
        obtain ⟨i, hi⟩ : ∃ i, i = (xs.length : Int) - ((e + 1 : Nat) : Int) := ⟨_, rfl⟩
        have hL := HL.out
        simp only [evGo] at hL
        rw [← hi] at hL ⊢
        obtain ⟨wi, hwi⟩ : ∃ wi, wi = rd xs i := ⟨_, rfl⟩
        rw [← hwi] at hL
        obtain ⟨adx, eax, hxi⟩ := Kd.at_int HR0.out i (by omega) (by omega)
        cases eax
        rw [← hwi] at hxi
        have hxw := (HI2.out.below.cell (World.block_lt_of_cell? w0 _ hxi)).trans hxi
        have hcw2 := HI2.out.cw
        have hcd2 := HI2.out.cd
        have hrw := Kd.R_step HRH.out (fun k hk hlt => HK2.out.2 k hlt hk.1 hk.2.1 hk.2.2)
        have HRW := Aside0.mk hrw
        have cb : decide (i < (xs.length : Int)) = true := decide_eq_true (by omega)
        have p2 := eq_true (show 0 ≤ i by omega)
        have q2 := eq_true (show i < (xs.length : Int) by omega)
        have HWI := Aside0.mk (show wrap64 (i + 1) = (xs.length : Int) - (e : Nat) by unfold wrap64; omega)
        have HCL := Aside0.mk (show slices_Clone_int_int.f half = some half by unfold slices_Clone_int_int.f; rw [if_pos (by have := HF.out; omega)])
        have hrec := fun (vv : Value) (W2 : World) (h1 : HvInv xs (some adx) c0 all bb bl bm bw be ba bd w0 W2 v' s') (h2 : Kd.R (Kd.int .i64) 3 W2 w0.heap.size (fun k => k ≠ bb ∧ k ≠ bl ∧ k ≠ bm) vv (half ++ [i])) =>
          HIH.out e (by omega) (half ++ [i]) (wrap64 (own + wi)) vv W2 v' s' (by omega) (by simp) (by have := HF.out; simp; omega) (by rw [show ((half ++ [i]).length : Int) - 1 = (half.length : Int) by simp; try omega]; simp [rd, List.getD_eq_getElem?_getD]; try omega) h1 h2
        have HREC := Aside0.mk hrec
        have HI := Aside0.mk hi
        have HL2 := Aside0.mk hL
        clear hi hwi hxi hrw hrec hen hxx hdd hL
        go_wp2
        refine start_ (n := 13) (S := fun w' => w'.cell? ⟨bd, 0, none⟩ = some (.func (.func 88) #[] #[.pointer (some ⟨be, 0, none⟩), .pointer (some ⟨ba, 0, none⟩), .pointer (some ⟨bw, 0, none⟩), .pointer (some ⟨bd, 0, none⟩)]) ∧ w'.cell? ⟨bw, 0, none⟩ = some (.slice (some adx) xs.length c0) ∧ w'.cell? (adx.add i.toNat) = some (.int .i64 wi)) (ds := [12]) #[false, false, false, false, false, false, false, false, false, false, false, false, false] (by kernel_rfl) rfl rfl ⟨hcd2, hcw2, hxw⟩ (fun hHeld => ?_); refine with_tabW halves1.tab4 halves1.bits4 (fun HT_ HW_ => ?_)
        have HI3 := Aside0.mk HI2.out.drew
        have HR3 := Aside0.mk (Kd.R_drew HRW.out)
        have HK3 := Aside0.mk (HK2.out.trans (Kept3.below (below_drew1 (Below.refl _ _))))
        clear HI2 HRW HK2 hcw2 hcd2 hxw cb
        generalize wr.drew = w3 at HI3 HR3 HK3 hHeld ⊢
        refine pure_ (i := 1) (N := some 35) (v := ?_) (a' := ?_) #[false, true, false, false, false, false, false, false, false, false, false, false, false] rfl rfl (any_of HT_.out (by kernel_rfl)) (fun _ _ _ h => h) (Or.inl ⟨by rfl, ?_⟩) ?_ ?_
        rotate_left
        · intro w'
          go_simp
          with_reducible rfl
        rotate_left
        · simp only [Act.put, List.setIfInBounds_toArray, List.set_cons_zero, List.set_cons_succ, i64_w, i32_w]
          rfl
        refine pure_ (i := 3) (N := some 37) (v := ?_) (a' := ?_) #[false, true, false, true, false, false, false, false, false, false, false, false, false] rfl rfl (any_of HT_.out (by kernel_rfl)) (fun _ _ _ h => h) (Or.inl ⟨by rfl, ?_⟩) ?_ ?_
        rotate_left
        · intro w'
          go_simp
          with_reducible rfl
        rotate_left
        · simp only [Act.put, List.setIfInBounds_toArray, List.set_cons_zero, List.set_cons_succ, i64_w, i32_w]
          rfl
        refine pure_ (i := 6) (N := some 40) (v := ?_) (a' := ?_) #[false, true, false, true, false, false, true, false, false, false, false, false, false] rfl rfl (any_of HT_.out (by kernel_rfl)) (fun _ _ _ h => h) (Or.inl ⟨by rfl, ?_⟩) ?_ ?_
        rotate_left
        · intro w'
          go_simp
          with_reducible rfl
        rotate_left
        · simp only [Act.put, List.setIfInBounds_toArray, List.set_cons_zero, List.set_cons_succ, i64_w, i32_w]
          rfl
        refine pure_ (i := 8) (N := some 42) (v := ?_) (a' := ?_) #[false, true, false, true, false, false, true, false, true, false, false, false, false] rfl rfl (any_of HT_.out (by kernel_rfl)) (fun _ _ _ h => h) (Or.inl ⟨by rfl, ?_⟩) ?_ ?_
        rotate_left
        · intro w'
          go_simp
          with_reducible rfl
        rotate_left
        · simp only [Act.put, List.setIfInBounds_toArray, List.set_cons_zero, List.set_cons_succ, i64_w, i32_w]
          rfl
        refine take_ (i := 0) (N := some 34) (v := ?_) (a' := ?_) #[true, true, false, true, false, false, true, false, true, false, false, false, false] rfl rfl (take_ofW HT_.out HW_.out (by kernel_rfl)) (fun _ _ _ h => h) (Or.inl ⟨by rfl, ?_⟩) hHeld ?_ ?_
        rotate_left
        · rintro w' ⟨s0, s1, s2⟩
          go_simp
          with_reducible rfl
        rotate_left
        · simp only [Act.put, List.setIfInBounds_toArray, List.set_cons_zero, List.set_cons_succ, i64_w, i32_w]
          rfl
        refine take_ (i := 7) (N := some 41) (v := ?_) (a' := ?_) #[true, true, false, true, false, false, true, true, true, false, false, false, false] rfl rfl (take_ofW HT_.out HW_.out (by kernel_rfl)) (fun _ _ _ h => h) (Or.inl ⟨by rfl, ?_⟩) hHeld ?_ ?_
        rotate_left
        · rintro w' ⟨s0, s1, s2⟩
          go_simp
          with_reducible rfl
        rotate_left
        · simp only [Act.put, List.setIfInBounds_toArray, List.set_cons_zero, List.set_cons_succ, i64_w, i32_w]
          rfl
        refine pure_ (i := 9) (N := some 43) (v := ?_) (a' := ?_) #[true, true, false, true, false, false, true, true, true, true, false, false, false] rfl rfl (any_of HT_.out (by kernel_rfl)) (fun _ _ _ h => h) (Or.inl ⟨by rfl, ?_⟩) ?_ ?_
        rotate_left
        · intro w'
          go_simp
          with_reducible rfl
        rotate_left
        · simp only [Act.put, List.setIfInBounds_toArray, List.set_cons_zero, List.set_cons_succ, i64_w, i32_w]
          rfl
        refine take_ (i := 10) (N := some 44) (v := ?_) (a' := ?_) #[true, true, false, true, false, false, true, true, true, true, true, false, false] rfl rfl (take_ofW HT_.out HW_.out (by kernel_rfl)) (fun _ _ _ h => h) (Or.inl ⟨by rfl, ?_⟩) hHeld ?_ ?_
        rotate_left
        · rintro w' ⟨s0, s1, s2⟩
          go_simp
          with_reducible rfl
        rotate_left
        · simp only [Act.put, List.setIfInBounds_toArray, List.set_cons_zero, List.set_cons_succ, i64_w, i32_w]
          rfl
        refine pure_ (i := 11) (N := some 45) (v := ?_) (a' := ?_) #[true, true, false, true, false, false, true, true, true, true, true, true, false] rfl rfl (any_of HT_.out (by kernel_rfl)) (fun _ _ _ h => h) (Or.inl ⟨by rfl, ?_⟩) ?_ ?_
        rotate_left
        · intro w'
          go_simp
          with_reducible rfl
        rotate_left
        · simp only [Act.put, List.setIfInBounds_toArray, List.set_cons_zero, List.set_cons_succ, i64_w, i32_w]
          rfl
        refine join_ (σ := Value × Value) 2 #[true, true, true, true, true, false, true, true, true, true, true, true, false] (fun s_ => [(36, s_.1), (38, s_.2)]) (fun s_ w' => (w'.cell? ⟨bd, 0, none⟩ = some (.func (.func 88) #[] #[.pointer (some ⟨be, 0, none⟩), .pointer (some ⟨ba, 0, none⟩), .pointer (some ⟨bw, 0, none⟩), .pointer (some ⟨bd, 0, none⟩)]) ∧ w'.cell? ⟨bw, 0, none⟩ = some (.slice (some adx) xs.length c0) ∧ w'.cell? (adx.add i.toNat) = some (.int .i64 wi)) ∧ Kd.R (Kd.int .i64) 3 w' w3.heap.size (fun _ => True) s_.1 half ∧ Kd.R (Kd.int .i64) 3 w' w3.heap.size (fun _ => True) s_.2 [i] ∧ Below w3.heap.size w3 w') ?_ ?_
        rotate_left
        · intro hCont
          refine two_ (i := 2) (j := 4) (Ni := some 36) (Nj := some 38) #[true, true, true, true, false, false, true, true, true, true, true, true, false] #[true, true, false, true, true, false, true, true, true, true, true, true, false] rfl rfl rfl rfl (two_of HT_.out (by kernel_rfl)) (by decide) (by decide) (fun K hK => ?_) (fun K hK => ?_)
          · refine goes_ Try.func86 (by kernel_rfl) rfl #[.slice (some ad) half.length c] (by rfl) rfl rfl (by (try simp only [List.map_toArray, List.map_cons, List.map_nil]); first | done | rfl | (simp only [List.length_drop, List.length_take]; rfl)) ?_
            with_reducible refine (slices_Clone_int_int.calls _ _ half half _ ?side1 ?side2 HCL.out).mono ?_
            (case side1 => exact (Kd.R_reads' HR3.out).2.2)
            (case side2 => exact (Kd.R_reads' HR3.out).2.1)
            rintro e4 w4 ⟨v137, rfl, ho0, hb⟩
            refine ⟨_, rfl, ?_⟩
            have HH4 := Aside0.mk (show _ ∧ _ ∧ _ from ⟨(hb.cell (World.block_lt_of_cell? w3 _ hHeld.1)).trans hHeld.1, (hb.cell (World.block_lt_of_cell? w3 _ hHeld.2.1)).trans hHeld.2.1, (hb.cell (World.block_lt_of_cell? w3 _ hHeld.2.2)).trans hHeld.2.2⟩)
            have HO4 := Aside0.mk ho0
            have HB4 := Aside0.mk hb
            clear ho0 hb
            refine hK.out _ _ HH4.out (fun _ => ?_)
            clear hK K
            refine norm_ (a' := ?_) ?_ ?_
            rotate_left
            · show Act.put _ (some 36) _ = _
              simp only [Act.put, List.setIfInBounds_toArray, List.set_cons_zero, List.set_cons_succ, i64_w, i32_w]
              rfl
            refine one_ (i := 4) (N := some 38) #[true, true, true, true, true, false, true, true, true, true, true, true, false] rfl rfl (one_of HT_.out (by kernel_rfl)) (by decide) (fun K hK => ?_)
            refine Kd.R_lit_step (Kd.int .i64) _ 3 ?hg (N := 38) ?hd (xs := ([i] : List Int)) (inner := [.int .i64 i]) (ok := fun _ => True) (okp := fun _ => True) ?hr ?hp (fun _ hk => hk) trivial (Below.refl _ _) (Nat.le_refl _) (by simp) ?_; (case hd => rfl); (case hg => rfl); (case hr => first | (go_simp; done) | (go_simp; rfl)); (case hp => exact (Reps.one (show Kd.M (Kd.int .i64) _ _ _ i [.int .i64 i] from rfl) (Reps.none _ _)))
            intro v140 w5 ho5 hb5 hg_ hnew_
            clear hg_ hnew_
            have HH5 := Aside0.mk (show _ ∧ _ ∧ _ from ⟨(hb5.cell (World.block_lt_of_cell? w4 _ HH4.out.1)).trans HH4.out.1, (hb5.cell (World.block_lt_of_cell? w4 _ HH4.out.2.1)).trans HH4.out.2.1, (hb5.cell (World.block_lt_of_cell? w4 _ HH4.out.2.2)).trans HH4.out.2.2⟩)
            have HO5 := Aside0.mk (Kd.R_lower ho5 HB4.out.size)
            have HO45 := Aside0.mk (Kd.R_below HO4.out hb5)
            have HB5 := Aside0.mk (HB4.out.trans (hb5.mono HB4.out.size))
            clear ho5 hb5
            refine hK.out _ _ HH5.out (fun _ => ?_)
            clear hK K
            refine norm_ (a' := ?_) ?_ ?_
            rotate_left
            · show Act.put _ (some 38) _ = _
              simp only [Act.put, List.setIfInBounds_toArray, List.set_cons_zero, List.set_cons_succ, i64_w, i32_w]
              rfl
            exact norm_ (by simp only [putAll, Act.put, List.setIfInBounds_toArray, List.set_cons_zero, List.set_cons_succ]) (hCont (v137, v140) _ ⟨HH5.out, HO45.out, HO5.out, HB5.out⟩)
          · refine Kd.R_lit_step (Kd.int .i64) _ 3 ?hg (N := 38) ?hd (xs := ([i] : List Int)) (inner := [.int .i64 i]) (ok := fun _ => True) (okp := fun _ => True) ?hr ?hp (fun _ hk => hk) trivial (Below.refl _ _) (Nat.le_refl _) (by simp) ?_; (case hd => rfl); (case hg => rfl); (case hr => first | (go_simp; done) | (go_simp; rfl)); (case hp => exact (Reps.one (show Kd.M (Kd.int .i64) _ _ _ i [.int .i64 i] from rfl) (Reps.none _ _)))
            intro v140 w4 ho4 hb4 hg_ hnew_
            clear hg_ hnew_
            have HH4 := Aside0.mk (show _ ∧ _ ∧ _ from ⟨(hb4.cell (World.block_lt_of_cell? w3 _ hHeld.1)).trans hHeld.1, (hb4.cell (World.block_lt_of_cell? w3 _ hHeld.2.1)).trans hHeld.2.1, (hb4.cell (World.block_lt_of_cell? w3 _ hHeld.2.2)).trans hHeld.2.2⟩)
            have HO4 := Aside0.mk ho4
            have HB4 := Aside0.mk hb4
            have HR4 := Aside0.mk (Kd.R_below HR3.out hb4)
            clear ho4 hb4
            refine hK.out _ _ HH4.out (fun _ => ?_)
            clear hK K
            refine norm_ (a' := ?_) ?_ ?_
            rotate_left
            · show Act.put _ (some 38) _ = _
              simp only [Act.put, List.setIfInBounds_toArray, List.set_cons_zero, List.set_cons_succ, i64_w, i32_w]
              rfl
            refine one_ (i := 2) (N := some 36) #[true, true, true, true, true, false, true, true, true, true, true, true, false] rfl rfl (one_of HT_.out (by kernel_rfl)) (by decide) (fun K hK => ?_)
            refine goes_ Try.func86 (by kernel_rfl) rfl #[.slice (some ad) half.length c] (by rfl) rfl rfl (by (try simp only [List.map_toArray, List.map_cons, List.map_nil]); first | done | rfl | (simp only [List.length_drop, List.length_take]; rfl)) ?_
            with_reducible refine (slices_Clone_int_int.calls _ _ half half _ ?side1 ?side2 HCL.out).mono ?_
            (case side1 => exact (Kd.R_reads' HR4.out).2.2)
            (case side2 => exact (Kd.R_reads' HR4.out).2.1)
            rintro e5 w5 ⟨v137, rfl, ho5, hb5⟩
            refine ⟨_, rfl, ?_⟩
            have HH5 := Aside0.mk (show _ ∧ _ ∧ _ from ⟨(hb5.cell (World.block_lt_of_cell? w4 _ HH4.out.1)).trans HH4.out.1, (hb5.cell (World.block_lt_of_cell? w4 _ HH4.out.2.1)).trans HH4.out.2.1, (hb5.cell (World.block_lt_of_cell? w4 _ HH4.out.2.2)).trans HH4.out.2.2⟩)
            have HO5 := Aside0.mk (Kd.R_lower ho5 HB4.out.size)
            have HO45 := Aside0.mk (Kd.R_below HO4.out hb5)
            have HB5 := Aside0.mk (HB4.out.trans (hb5.mono HB4.out.size))
            clear ho5 hb5
            refine hK.out _ _ HH5.out (fun _ => ?_)
            clear hK K
            refine norm_ (a' := ?_) ?_ ?_
            rotate_left
            · show Act.put _ (some 36) _ = _
              simp only [Act.put, List.setIfInBounds_toArray, List.set_cons_zero, List.set_cons_succ, i64_w, i32_w]
              rfl
            exact norm_ (by simp only [putAll, Act.put, List.setIfInBounds_toArray, List.set_cons_zero, List.set_cons_succ]) (hCont (v137, v140) _ ⟨HH5.out, HO5.out, HO45.out, HB5.out⟩)
        rintro ⟨v137, v140⟩ w6 ⟨hS_, h0_, h1_, h2_⟩
        have HO6 : Aside0 (Kd.R (Kd.int .i64) 3 w6 w3.heap.size (fun _ => True) v137 half) := ⟨h0_⟩
        have HP6 : Aside0 (Kd.R (Kd.int .i64) 3 w6 w3.heap.size (fun _ => True) v140 [i]) := ⟨h1_⟩
        have HB6 : Aside0 (Below w3.heap.size w3 w6) := ⟨h2_⟩
        clear h0_ h1_ h2_
        obtain ⟨Ao, co, eo⟩ := Kd.R_slice HP6.out
        subst eo
        refine norm_ (a' := ?_) ?_ ?_
        rotate_left
        · simp only [putAll, Act.put, List.setIfInBounds_toArray, List.set_cons_zero, List.set_cons_succ]
          rfl
        refine one_ (i := 5) (N := some 39) #[true, true, true, true, true, true, true, true, true, true, true, true, false] rfl rfl (one_of HT_.out (by kernel_rfl)) (by decide) (fun K hK => ?_)
        refine Kd.R_append_rows_step (Kd.int .i64) (w0 := w3) w3.heap.size (by rfl) (.tmp 36) (.tmp 38) 22 3 (.int .i64 0) 8 rfl Try.underlying22 info3 rfl (by decide) (by omega) v137 half [i] _ _ _ (fun _ => True) (fun _ => False) rfl rfl HO6.out ?aR (fun _ _ h => h) (fun _ h => h.elim) (fun _ _ => trivial) HB6.out HB6.out.size ?aL ?_
        (case aR => exact (Kd.R_reads' HP6.out).2.2)
        (case aL => have := HF.out; simp; try omega)
        intro v143 w7 ho hb hg hat
        have HO7 := Aside0.mk ho
        have HB7 := Aside0.mk hb
        have HH7 := Aside0.mk (show _ ∧ _ ∧ _ from ⟨(hb.cell (World.block_lt_of_cell? w3 _ hHeld.1)).trans hHeld.1, (hb.cell (World.block_lt_of_cell? w3 _ hHeld.2.1)).trans hHeld.2.1, (hb.cell (World.block_lt_of_cell? w3 _ hHeld.2.2)).trans hHeld.2.2⟩)
        clear ho hb hg hat
        refine hK.out _ _ HH7.out (fun _ => ?_)
        clear hK K
        refine norm_ (a' := ?_) ?_ ?_
        rotate_left
        · show Act.put _ (some 39) _ = _
          simp only [Act.put, List.setIfInBounds_toArray, List.set_cons_zero, List.set_cons_succ, i64_w, i32_w]
          rfl
        have hcall := HREC.out v143 w7 (HI3.out.kept HB7.out) (Kd.R_lower (Kd.R_mono (Kd.R_bound HO7.out) (fun k hk => ⟨by
          have := World.block_lt_of_cell? w3 _ HI3.out.box.cb; have := hk.2.1; simp only [] at *; omega, by
          have := World.block_lt_of_cell? w3 _ HI3.out.box.cl; have := hk.2.1; simp only [] at *; omega, by
          have := World.block_lt_of_cell? w3 _ HI3.out.box.cm; have := hk.2.1; simp only [] at *; omega⟩)) HI3.out.below.size)
        refine last_ (i := 12) (N := some 46) #[true, true, true, true, true, true, true, true, true, true, true, true, true] rfl rfl (one_of HT_.out (by kernel_rfl)) (by decide) (fun K hK => ?_)
        refine call_ 88 #[v143, .int .i64 (wrap64 (own + wi)), .pointer (some ⟨be, 0, none⟩), .pointer (some ⟨ba, 0, none⟩), .pointer (some ⟨bw, 0, none⟩), .pointer (some ⟨bd, 0, none⟩)] (by rfl) rfl ?hrun ?_
        (case hrun => go_simp)
        refine hcall.mono ?_
        rintro e8 w8 ⟨rfl, hp8⟩
        refine ⟨_, rfl, ?_⟩
        obtain ⟨v8, hi8, hk8⟩ := hp8
        refine hK.out _ _ ?_
        clear hK K
        refine norm_ (a' := ?_) ?_ ?_
        rotate_left
        · show Act.put _ (some 46) _ = _
          simp only [Act.put, List.setIfInBounds_toArray, List.set_cons_zero, List.set_cons_succ, i64_w, i32_w]
          rfl
        refine done_ (done_of HT_.out (by kernel_rfl)) ?_
        go_wp2
        go_roundg gk
        case measure => omega
        case rel => exact ⟨e, v8, _, by rw [HWI.out], ⟨by have := HS.out; omega⟩, HL2, ⟨hi8⟩, ⟨(HK3.out.trans (Kept3.below HB7.out)).trans hk8⟩⟩
def halves.T4 : Bool × List (List Nat × List Nat) := (true, [([], []), ([], []), ([], []), ([2], [2]), ([3], [3]), ([0, 1, 4], [0, 1, 4])])
def halves.B4 : List Nat := [0, 0, 0, 4, 12, 31]
theorem halves.tab4 : rtab .any (opsOf Try.f80 4) = halves.T4 := by kernel_rfl
theorem halves.bits4 : waitsOk halves.T4.2 halves.B4 = true := by kernel_rfl
theorem run_store_func (P : Program) (w : World) (a : Addr) (m : Mode) (f : Fn) (r cs : Array Value) : (store a (.func f r cs) m).run P w = stored P w a (.func f r cs) m := run_store P w a _ m rfl
attribute [local go_sem] run_store_func
/-- What stands behind halves. -/
def HvEnd (bb bl bm : Nat) (w0 : World) (s : List Int × Int × Int) (W' : World) : Prop := ∃ v', EvBox bb bl bm W' v' s ∧ Kd.R (Kd.int .i64) 3 W' w0.heap.size (fun k => k ≠ bb ∧ k ≠ bl ∧ k ≠ bm) v' s.1 ∧ Below w0.heap.size w0 W'
set_option maxHeartbeats 4000000 in
set_option maxRecDepth 100000 in
theorem hv_halves (xs : List Int) (A0 : Option Addr) (c0 : Nat) (all : Int) (k : Nat) (bb bl bm : Nat) (w0 W : World) (hr0 : Kd.C (Kd.int .i64) w0 A0 xs.length xs) (hc0 : xs.length ≤ c0) (hx : xs.length ≤ 12) (hx0 : 0 < xs.length) (hsum : impl_sum.f k xs = some all)
    (hB : Below w0.heap.size w0 W) (hbox : EvBox bb bl bm W (.slice none 0 0) ([], 0, 0)) (hb : w0.heap.size ≤ bb ∧ w0.heap.size ≤ bl ∧ w0.heap.size ≤ bm) (n3 : bb ≠ bl ∧ bb ≠ bm ∧ bl ≠ bm) :
    Calls Try.prog 80 #[.slice A0 xs.length c0, .func (.func 81) #[] #[.pointer (some ⟨bm, 0, none⟩), .pointer (some ⟨bl, 0, none⟩), .pointer (some ⟨bb, 0, none⟩)]] W
      fun e w' => e = .returned (.tuple #[]) ∧ HvEnd bb bl bm w0 (evGo xs all (xs.length - 1) [0] (rd xs 0) (evStep ([], 0, 0) [0] (evApart all (rd xs 0)))) w' := by
  have lb := World.block_lt_of_cell? W _ hbox.cb
  have ll := World.block_lt_of_cell? W _ hbox.cl
  have lm := World.block_lt_of_cell? W _ hbox.cm
  simp only [] at lb ll lm
  obtain ⟨adx, eax, hxi⟩ := Kd.at_int hr0 0 (by omega) (by omega)
  cases eax
  have HSUM := Aside0.mk (fun (W2 : World) (h : Below W.heap.size W W2) => impl_sum.calls k (some adx) c0 xs all W2 (Kd.C_below hr0 (hB.trans (h.mono hB.size))) hc0 hsum)
  have hW2 := (((Below.refl W.heap.size W).alloc (Nat.le_refl _) (.cells #[.slice (some adx) xs.length c0] 22)).alloc (by simp) (.cells #[.func (.func 81) #[] #[.pointer (some ⟨bm, 0, none⟩), .pointer (some ⟨bl, 0, none⟩), .pointer (some ⟨bb, 0, none⟩)]] 80))
  have HW2 := Aside0.mk hW2
  clear hW2
  obtain ⟨x0, hx0e⟩ : ∃ x0, x0 = rd xs 0 := ⟨_, rfl⟩
  rw [← hx0e] at hxi ⊢
  have HX0 := Aside0.mk hx0e
  clear hx0e
  go_enter Try.func80, Try.ntmps80
  go_wp2_with (go_at_call 57; (with_reducible refine (HSUM.out _ HW2.out).mono ?_); rintro e w' ⟨rfl, ⟨nd, rfl⟩⟩)
  have hB5 : Below W.heap.size W (((((W.alloc (.cells #[.slice (some adx) xs.length c0] 22)).alloc (.cells #[.func (.func 81) #[] #[.pointer (some ⟨bm, 0, none⟩), .pointer (some ⟨bl, 0, none⟩), .pointer (some ⟨bb, 0, none⟩)]] 80)).drewN nd).alloc (.cells #[.int .i64 all] 3)).alloc (.cells #[.func (.func 88) #[] #[.pointer (some ⟨W.heap.size + 1, 0, none⟩), .pointer (some ⟨W.heap.size + 1 + 1, 0, none⟩), .pointer (some ⟨W.heap.size, 0, none⟩), .pointer (some ⟨W.heap.size + 1 + 1 + 1, 0, none⟩)]] 80)) := by repeat (first | exact Below.refl _ _ | apply below_alloc | apply pw_below_drewN | apply below_drew1)
  have hc0' : (((((W.alloc (.cells #[.slice (some adx) xs.length c0] 22)).alloc (.cells #[.func (.func 81) #[] #[.pointer (some ⟨bm, 0, none⟩), .pointer (some ⟨bl, 0, none⟩), .pointer (some ⟨bb, 0, none⟩)]] 80)).drewN nd).alloc (.cells #[.int .i64 all] 3)).alloc (.cells #[.func (.func 88) #[] #[.pointer (some ⟨W.heap.size + 1, 0, none⟩), .pointer (some ⟨W.heap.size + 1 + 1, 0, none⟩), .pointer (some ⟨W.heap.size, 0, none⟩), .pointer (some ⟨W.heap.size + 1 + 1 + 1, 0, none⟩)]] 80)).cell? ⟨W.heap.size, 0, none⟩ = some (.slice (some adx) xs.length c0) := by go_simp
  have hc1' : (((((W.alloc (.cells #[.slice (some adx) xs.length c0] 22)).alloc (.cells #[.func (.func 81) #[] #[.pointer (some ⟨bm, 0, none⟩), .pointer (some ⟨bl, 0, none⟩), .pointer (some ⟨bb, 0, none⟩)]] 80)).drewN nd).alloc (.cells #[.int .i64 all] 3)).alloc (.cells #[.func (.func 88) #[] #[.pointer (some ⟨W.heap.size + 1, 0, none⟩), .pointer (some ⟨W.heap.size + 1 + 1, 0, none⟩), .pointer (some ⟨W.heap.size, 0, none⟩), .pointer (some ⟨W.heap.size + 1 + 1 + 1, 0, none⟩)]] 80)).cell? ⟨W.heap.size + 1, 0, none⟩ = some (.func (.func 81) #[] #[.pointer (some ⟨bm, 0, none⟩), .pointer (some ⟨bl, 0, none⟩), .pointer (some ⟨bb, 0, none⟩)]) := by go_simp
  have hc2' : (((((W.alloc (.cells #[.slice (some adx) xs.length c0] 22)).alloc (.cells #[.func (.func 81) #[] #[.pointer (some ⟨bm, 0, none⟩), .pointer (some ⟨bl, 0, none⟩), .pointer (some ⟨bb, 0, none⟩)]] 80)).drewN nd).alloc (.cells #[.int .i64 all] 3)).alloc (.cells #[.func (.func 88) #[] #[.pointer (some ⟨W.heap.size + 1, 0, none⟩), .pointer (some ⟨W.heap.size + 1 + 1, 0, none⟩), .pointer (some ⟨W.heap.size, 0, none⟩), .pointer (some ⟨W.heap.size + 1 + 1 + 1, 0, none⟩)]] 80)).cell? ⟨W.heap.size + 1 + 1, 0, none⟩ = some (.int .i64 all) := by go_simp
  have hc3' : (((((W.alloc (.cells #[.slice (some adx) xs.length c0] 22)).alloc (.cells #[.func (.func 81) #[] #[.pointer (some ⟨bm, 0, none⟩), .pointer (some ⟨bl, 0, none⟩), .pointer (some ⟨bb, 0, none⟩)]] 80)).drewN nd).alloc (.cells #[.int .i64 all] 3)).alloc (.cells #[.func (.func 88) #[] #[.pointer (some ⟨W.heap.size + 1, 0, none⟩), .pointer (some ⟨W.heap.size + 1 + 1, 0, none⟩), .pointer (some ⟨W.heap.size, 0, none⟩), .pointer (some ⟨W.heap.size + 1 + 1 + 1, 0, none⟩)]] 80)).cell? ⟨W.heap.size + 1 + 1 + 1, 0, none⟩ = some (.func (.func 88) #[] #[.pointer (some ⟨W.heap.size + 1, 0, none⟩), .pointer (some ⟨W.heap.size + 1 + 1, 0, none⟩), .pointer (some ⟨W.heap.size, 0, none⟩), .pointer (some ⟨W.heap.size + 1 + 1 + 1, 0, none⟩)]) := by go_simp
  generalize (((((W.alloc (.cells #[.slice (some adx) xs.length c0] 22)).alloc (.cells #[.func (.func 81) #[] #[.pointer (some ⟨bm, 0, none⟩), .pointer (some ⟨bl, 0, none⟩), .pointer (some ⟨bb, 0, none⟩)]] 80)).drewN nd).alloc (.cells #[.int .i64 all] 3)).alloc (.cells #[.func (.func 88) #[] #[.pointer (some ⟨W.heap.size + 1, 0, none⟩), .pointer (some ⟨W.heap.size + 1 + 1, 0, none⟩), .pointer (some ⟨W.heap.size, 0, none⟩), .pointer (some ⟨W.heap.size + 1 + 1 + 1, 0, none⟩)]] 80)) = W5 at hB5 hc0' hc1' hc2' hc3' ⊢
  have hI : HvInv xs (some adx) c0 all bb bl bm W.heap.size (W.heap.size + 1) (W.heap.size + 1 + 1) (W.heap.size + 1 + 1 + 1) w0 W5 (.slice none 0 0) ([], 0, 0) :=
    ⟨hB.trans (hB5.mono hB.size), ⟨(hB5.cell (World.block_lt_of_cell? W _ hbox.cb)).trans hbox.cb, (World.frozen?_of_block (hB5.block _ (World.block_lt_of_cell? W _ hbox.cb))).trans hbox.fb, (hB5.cell (World.block_lt_of_cell? W _ hbox.cl)).trans hbox.cl, (World.frozen?_of_block (hB5.block _ (World.block_lt_of_cell? W _ hbox.cl))).trans hbox.fl, (hB5.cell (World.block_lt_of_cell? W _ hbox.cm)).trans hbox.cm, (World.frozen?_of_block (hB5.block _ (World.block_lt_of_cell? W _ hbox.cm))).trans hbox.fm⟩,
      hc0', hc1', hc2', hc3', Kd.R_nil _ _ _ _ _, hb, n3, by omega, by omega, by omega, by omega⟩
  have hx5 : W5.cell? adx = some (.int .i64 x0) := (show W5.cell? (adx.add (0 : Int).toNat) = some (.int .i64 x0) from ((hB.trans (hB5.mono hB.size)).cell (World.block_lt_of_cell? w0 _ hxi)).trans hxi)
  have q0 := eq_true hx0
  have HADD := fun (vv : Value) (W2 : World) (h1 : HvInv xs (some adx) c0 all bb bl bm W.heap.size (W.heap.size + 1) (W.heap.size + 1 + 1) (W.heap.size + 1 + 1 + 1) w0 W2 (.slice none 0 0) ([], 0, 0)) (h2 : Kd.R (Kd.int .i64) 3 W2 w0.heap.size (fun k => k ≠ bb ∧ k ≠ bl ∧ k ≠ bm) vv [0]) =>
    hv_add xs (some adx) c0 all bb bl bm _ _ _ _ w0 hr0 hc0 hx (xs.length - 1) [0] (rd xs 0) vv W2 _ _ (by omega) (by simp) (by simp; omega) (by simp [rd]; omega) h1 h2
  have HADDH := Aside0.mk HADD
  have HI := Aside0.mk hI
  have HXX := Aside0.mk (show 0 < xs.length ∧ w0.heap.size ≤ W.heap.size from ⟨hx0, hB.size⟩)
  rw [← HX0.out] at HADDH
  obtain ⟨g1, hg1⟩ : ∃ g, g = W.heap.size := ⟨_, rfl⟩
  have HG := Aside0.mk hg1
  rw [← hg1] at HI HADDH hc0' hc1' hc2' hc3' ⊢
  clear hI HADD hsum hB hbox hb n3 hxi hr0 hc0 hx hx0 HSUM HW2 hB5 lb ll lm hg1
  refine start_ (n := 6) (S := fun w' => w'.cell? ⟨g1 + 1 + 1 + 1, 0, none⟩ = some (.func (.func 88) #[] #[.pointer (some ⟨g1 + 1, 0, none⟩), .pointer (some ⟨g1 + 1 + 1, 0, none⟩), .pointer (some ⟨g1, 0, none⟩), .pointer (some ⟨g1 + 1 + 1 + 1, 0, none⟩)]) ∧ w'.cell? ⟨g1, 0, none⟩ = some (.slice (some adx) xs.length c0) ∧ w'.cell? adx = some (.int .i64 x0)) (ds := [5]) #[false, false, false, false, false, false] (by kernel_rfl) rfl rfl ⟨hc3', hc0', hx5⟩ (fun hHeld => ?_); refine with_tabW halves.tab4 halves.bits4 (fun HT_ HW_ => ?_)
  have HI3 := Aside0.mk HI.out.drew
  clear HI hc0' hc1' hc2' hc3' hx5
  generalize W5.drew = w3 at HI3 hHeld ⊢
  refine take_ (i := 0) (N := some 9) (v := ?_) (a' := ?_) #[true, false, false, false, false, false] rfl rfl (take_ofW HT_.out HW_.out (by kernel_rfl)) (fun _ _ _ h => h) (Or.inl ⟨by rfl, ?_⟩) hHeld ?_ ?_
  rotate_left
  · rintro w' ⟨s0, s1, s2⟩
    go_simp
    with_reducible rfl
  rotate_left
  · simp only [Act.put, List.setIfInBounds_toArray, List.set_cons_zero, List.set_cons_succ, i64_w, i32_w]
    rfl
  refine take_ (i := 2) (N := some 11) (v := ?_) (a' := ?_) #[true, false, true, false, false, false] rfl rfl (take_ofW HT_.out HW_.out (by kernel_rfl)) (fun _ _ _ h => h) (Or.inl ⟨by rfl, ?_⟩) hHeld ?_ ?_
  rotate_left
  · rintro w' ⟨s0, s1, s2⟩
    go_simp
    with_reducible rfl
  rotate_left
  · simp only [Act.put, List.setIfInBounds_toArray, List.set_cons_zero, List.set_cons_succ, i64_w, i32_w]
    rfl
  refine pure_ (i := 3) (N := some 12) (v := ?_) (a' := ?_) #[true, false, true, true, false, false] rfl rfl (any_of HT_.out (by kernel_rfl)) (fun _ _ _ h => h) (Or.inl ⟨by rfl, ?_⟩) ?_ ?_
  rotate_left
  · intro w'
    go_simp
    with_reducible rfl
  rotate_left
  · simp only [Act.put, List.setIfInBounds_toArray, List.set_cons_zero, List.set_cons_succ, i64_w, i32_w]
    rfl
  refine take_ (i := 4) (N := some 13) (v := ?_) (a' := ?_) #[true, false, true, true, true, false] rfl rfl (take_ofW HT_.out HW_.out (by kernel_rfl)) (fun _ _ _ h => h) (Or.inl ⟨by rfl, ?_⟩) hHeld ?_ ?_
  rotate_left
  · rintro w' ⟨s0, s1, s2⟩
    go_simp
    with_reducible rfl
  rotate_left
  · simp only [Act.put, List.setIfInBounds_toArray, List.set_cons_zero, List.set_cons_succ, i64_w, i32_w]
    rfl
  refine one_ (i := 1) (N := some 10) #[true, true, true, true, true, false] rfl rfl (one_of HT_.out (by kernel_rfl)) (by decide) (fun K hK => ?_)
  refine Kd.R_lit_step (Kd.int .i64) _ 3 ?hg (N := 10) ?hd (xs := ([0] : List Int)) (inner := [.int .i64 0]) (ok := fun _ => True) (okp := fun _ => True) ?hr ?hp (fun _ hk => hk) trivial (Below.refl _ _) (Nat.le_refl _) (by simp) ?_; (case hd => rfl); (case hg => rfl); (case hr => first | (go_simp; done) | (go_simp; rfl)); (case hp => exact (Reps.one (show Kd.M (Kd.int .i64) _ _ _ 0 [.int .i64 0] from rfl) (Reps.none _ _)))
  intro v140 w4 ho4 hb4 hg_ hnew_
  clear hg_ hnew_
  have HO7 := Aside0.mk ho4
  have HB7 := Aside0.mk hb4
  clear ho4 hb4
  refine hK.out _ _ ⟨(HB7.out.cell (World.block_lt_of_cell? w3 _ hHeld.1)).trans hHeld.1, (HB7.out.cell (World.block_lt_of_cell? w3 _ hHeld.2.1)).trans hHeld.2.1, (HB7.out.cell (World.block_lt_of_cell? w3 _ hHeld.2.2)).trans hHeld.2.2⟩ (fun _ => ?_)
  clear hK K
  refine norm_ (a' := ?_) ?_ ?_
  rotate_left
  · show Act.put _ (some 10) _ = _
    simp only [Act.put, List.setIfInBounds_toArray, List.set_cons_zero, List.set_cons_succ, i64_w, i32_w]
    rfl
  have hcall := HADDH.out v140 w4 (HI3.out.kept HB7.out) (Kd.R_lower (Kd.R_mono (Kd.R_bound HO7.out) (fun k hk => ⟨by
          have := World.block_lt_of_cell? w3 _ HI3.out.box.cb; have := hk.2.1; simp only [] at *; omega, by
          have := World.block_lt_of_cell? w3 _ HI3.out.box.cl; have := hk.2.1; simp only [] at *; omega, by
          have := World.block_lt_of_cell? w3 _ HI3.out.box.cm; have := hk.2.1; simp only [] at *; omega⟩)) HI3.out.below.size)
  refine last_ (i := 5) (N := some 14) #[true, true, true, true, true, true] rfl rfl (one_of HT_.out (by kernel_rfl)) (by decide) (fun K hK => ?_)
  refine call_ 88 #[v140, .int .i64 x0, .pointer (some ⟨g1 + 1, 0, none⟩), .pointer (some ⟨g1 + 1 + 1, 0, none⟩), .pointer (some ⟨g1, 0, none⟩), .pointer (some ⟨g1 + 1 + 1 + 1, 0, none⟩)] (by rfl) rfl ?hrun ?_
  (case hrun => go_simp)
  refine hcall.mono ?_
  rintro e8 w8 ⟨rfl, hp8⟩
  refine ⟨_, rfl, ?_⟩
  obtain ⟨v8, hi8, hk8⟩ := hp8
  refine hK.out _ _ ?_
  clear hK K
  refine norm_ (a' := ?_) ?_ ?_
  rotate_left
  · show Act.put _ (some 14) _ = _
    simp only [Act.put, List.setIfInBounds_toArray, List.set_cons_zero, List.set_cons_succ, i64_w, i32_w]
    rfl
  refine done_ (done_of HT_.out (by kernel_rfl)) ?_
  go_wp2
  go_end0
  exact ⟨rfl, ⟨v8, hi8.box, hi8.own, hi8.below⟩⟩
/-- The sum of the weights, as the program reckons it. -/
def evSum : List Int → Int → Int
  | [], s => s
  | x :: r, s => evSum r (wrap64 (s + x))
theorem evSum_l0 (xs : List Int) (hx : xs.length ≤ 1048576) (d : Nat) : ∀ (j : Nat) (s : Int), xs.length - j = d → j ≤ xs.length → ∃ k, impl_sum.l0 k s xs (xs.length : Int) (j : Int) = some (evSum (xs.drop j) s) := by
  induction d with
  | zero =>
    intro j s hd hj
    refine ⟨1, ?_⟩
    simp only [impl_sum.l0]
    rw [if_neg (by omega), List.drop_of_length_le (by omega)]
    rfl
  | succ d ih =>
    intro j s hd hj
    have hj1 : j < xs.length := by omega
    have e : rd xs (j : Int) = xs[j] := by simp [rd, List.getD_eq_getElem?_getD, List.getElem?_eq_getElem hj1]
    obtain ⟨k, hk⟩ := ih (j + 1) (wrap64 (s + xs[j])) (by omega) (by omega)
    refine ⟨k + 1, ?_⟩
    simp only [impl_sum.l0]
    have hw : wrap64 ((j : Int) + 1) = ((j + 1 : Nat) : Int) := by unfold wrap64; omega
    rw [if_pos (by omega), if_pos (by omega), if_pos (by omega), e, hw, hk, List.drop_eq_getElem_cons hj1]
    rfl
theorem evSum_some (xs : List Int) (hx : xs.length ≤ 1048576) : ∃ k, impl_sum.f k xs = some (evSum xs 0) := evSum_l0 xs hx xs.length 0 0 (by omega) (by omega)
def impl_evenest.f (l0 : List Int) : Option (List Int × Int × Int) :=
  if 0 < l0.length ∧ l0.length ≤ 12 then some (evGo l0 (evSum l0 0) (l0.length - 1) [0] (rd l0 0) (evStep ([], 0, 0) [0] (evApart (evSum l0 0) (rd l0 0)))) else none
set_option maxHeartbeats 4000000 in
set_option maxRecDepth 100000 in
theorem impl_evenest.calls (A0 : Option Addr) (c0 : Nat) (l0 : List Int) (r1 : List Int) (r2 r3 : Int) (w : World) (hr0 : Kd.C (Kd.int .i64) w A0 l0.length l0) (hc0 : l0.length ≤ c0) (h : impl_evenest.f l0 = some (r1, r2, r3)) :
    Calls Try.prog 63 #[.slice A0 l0.length c0] w fun e w' => ∃ v0_ : Value, e = .returned (.tuple #[v0_, .int .i64 r2, .int .i64 r3]) ∧ Kd.R (Kd.int .i64) 3 w' w.heap.size (fun _ => True) v0_ r1 ∧ Below w.heap.size w w' := by
  unfold impl_evenest.f at h
  by_cases hx : 0 < l0.length ∧ l0.length ≤ 12
  · rw [if_pos hx] at h
    have h := Option.some.inj h
    obtain ⟨k, hk⟩ := evSum_some l0 (by omega)
    have hcall := fun (W : World) (hB : Below w.heap.size w W) (hbox : EvBox w.heap.size (w.heap.size + 1) (w.heap.size + 1 + 1) W (.slice none 0 0) ([], 0, 0)) =>
      hv_halves l0 A0 c0 (evSum l0 0) k w.heap.size (w.heap.size + 1) (w.heap.size + 1 + 1) w W hr0 hc0 hx.2 hx.1 hk hB hbox (by omega) (by omega)
    rw [h] at hcall
    have HCALL := Aside0.mk hcall
    clear hcall h hk hx hr0 hc0
    go_enter Try.func63, Try.ntmps63
    go_wp2_with (go_at_call 80; (with_reducible refine (HCALL.out _ ?hB ?hbox).mono ?_); (case hB => repeat (first | exact Below.refl _ _ | apply below_alloc | apply pw_below_drewN | apply below_drew1)); (case hbox => exact ⟨by go_simp, by go_simp, by go_simp, by go_simp, by go_simp, by go_simp⟩); rintro e w' ⟨rfl, hp⟩; obtain ⟨v', hbx, hrr, hbb⟩ := hp; have hcb := hbx.cb; have hcl := hbx.cl; have hcm := hbx.cm; have HRR := Aside0.mk hrr; have HBB := Aside0.mk hbb; clear hbx hrr hbb)
    go_quiet (fail)
    go_wp2
    go_ret3
    exact ⟨_, rfl, Kd.R_mono (by repeat (first | exact HRR.out | apply Kd.R_drewN | apply Kd.R_drew)) (fun _ _ => trivial), by repeat (first | exact HBB.out | apply pw_below_drewN | apply below_drew1)⟩
  · rw [if_neg hx] at h
    cases h

end Go.Proofs.Ytnppcpjkjepfeaa.L
