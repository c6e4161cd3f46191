-- Laid by a program of this session (wip/pp.py) over the seat's translation, with its own texts for some functions.
import Derived.Test.YtnppcpjkjepfeaaK0
import Derived.Test.YtnppcpjkjepfeaaK5
import Derived.Test.YtnppcpjkjepfeaaK6
namespace Go.Proofs.Ytnppcpjkjepfeaa.K
open Go.RowKit Go.Proofs.YtnppcpjkjepfeaaW.PrintWords Go.Proofs.YtnppcpjkjepfeaaW.PrintLast Go.Proofs.YtnppcpjkjepfeaaW.PrintMore
attribute [local go_sem] max2_int min2_int max_two min_two max_three min_three max_four min_four   -- for this text's walks alone
set_option linter.unusedVariables false
set_option linter.unusedSimpArgs false

/-! ### impl_isStack: function 65 -/
/-- Whatever is cells lies as it lay, but two blocks. -/
def KpC (ba br : Nat) (W W' : World) : Prop := W.heap.size ≤ W'.heap.size ∧ ∀ k o, k ≠ ba → k ≠ br → W.heap[k]? = some o → o.isCells = true → W'.heap[k]? = some o
theorem KpC.refl (ba br : Nat) (W : World) : KpC ba br W W := ⟨Nat.le_refl _, fun _ _ _ _ h _ => h⟩
theorem KpC.trans {ba br : Nat} {A B C : World} (h : KpC ba br A B) (k : KpC ba br B C) : KpC ba br A C := ⟨Nat.le_trans h.1 k.1, fun i o h1 h2 h3 h4 => k.2 i o h1 h2 (h.2 i o h1 h2 h3 h4) h4⟩
theorem KpC.putObj (ba br : Nat) (W : World) (l : Nat) (o o' : Obj) (hl : W.heap[l]? = some o) (hc : o.isCells = false) : KpC ba br W (W.putObj l o') := by
  refine ⟨(grownBy_putObj' W l o').size, fun k x _ _ hk hx => ?_⟩
  have hne : k ≠ l := by
    rintro rfl
    rw [hl] at hk
    cases hk
    rw [hc] at hx
    cases hx
  exact ((grownBy_putObj' W l o').block k (Array.getElem?_eq_some_iff.1 hk).1 (fun e => hne (by injection e))).trans hk
theorem KpC.set {ba br : Nat} (W : World) (p : Addr) (v : Value) (h : p.block = ba ∨ p.block = br) : KpC ba br W (W.setCell p v) :=
  ⟨by simp, fun k o h1 h2 h3 _ => (Below.heap_setCell W p v k (by rcases h with h | h <;> rw [h] <;> assumption)).trans h3⟩
theorem KpC.of_below {ba br : Nat} {W W' : World} (h : Below W.heap.size W W') : KpC ba br W W' := ⟨h.size, fun k _ _ _ h3 _ => (h.block k (Array.getElem?_eq_some_iff.1 h3).1).trans h3⟩
theorem KpC.cell {ba br : Nat} {W W' : World} (h : KpC ba br W W') {p : Addr} {v : Value} (hc : W.cell? p = some v) (h1 : p.block ≠ ba) (h2 : p.block ≠ br) : W'.cell? p = some v := by
  obtain ⟨o, ho, hi⟩ := cells_of_cell hc
  exact (World.cell?_of_block ((h.2 _ o h1 h2 ho hi).trans ho.symm)).trans hc
/-- The first k that come: the last place first. -/
def bkTo (n : Nat) : Nat → List Nat
  | 0 => []
  | k + 1 => bkTo n k ++ [n - (k + 1)]
theorem bkTo_len (n k : Nat) : (bkTo n k).length = k := by
  induction k with
  | zero => rfl
  | succ k ih => simp [bkTo, ih]
attribute [local go_sem] Oper.semAt_some
set_option maxRecDepth 100000 in
set_option maxHeartbeats 2000000 in
/-- slices.Backward's closure, for every loop body that keeps what is read here. -/
theorem bk_stops (Bs ba br : Nat) (ad : Option Addr) (zs : List Int) (cap : Nat) (w : World) (hz : zs.length ≤ 1048576) (hs : w.cell? ⟨Bs, 0, none⟩ = some (.slice ad zs.length cap)) (h1 : Bs ≠ ba) (h2 : Bs ≠ br)
    (hC : Kd.C (Kd.int .i64) w ad zs.length zs) (had : ∀ a, ad = some a → ∀ j, j < zs.length → (a.add j).block ≠ ba ∧ (a.add j).block ≠ br) :
    SeqStopsK Fence.wide 3 Try.prog 89 #[.pointer (some ⟨Bs, 0, none⟩)] (fun x : { j : Nat // j < zs.length } => #[Value.int .i64 (x.1 : Int), Value.int .i64 (rd zs (x.1 : Int))]) (KpC ba br)
      (fun ys => ys.map Subtype.val = bkTo zs.length zs.length) (fun pre => ∃ k, k ≤ zs.length ∧ pre.map Subtype.val = bkTo zs.length k) zs.length w := fun l J Jx W hW _ _ hY h0 => by
  have hs' := (hW.cell (World.block_lt_of_cell? w _ hs)).trans hs
  have hC' := Kd.C_below hC hW
  have HC := Aside0.mk hC'
  have HZ := Aside0.mk hz
  have HS := Aside0.mk hs'
  have HN := Aside0.mk (show Bs ≠ ba ∧ Bs ≠ br from ⟨h1, h2⟩)
  have HA := Aside0.mk had
  have HY := Aside0.mk hY
  have HW0 := Aside0.mk (show wrap64 ((zs.length : Int) - 1) = ((zs.length - 0 : Nat) : Int) - 1 by unfold wrap64; omega)
  clear hC hz hs hW hC' h1 h2 had hY
  refine callsIn_of_wp Try.func89 rfl trivial ?_ rfl
  simp only [Try.ntmps89, List.size_toArray, List.length_cons, List.length_nil, Nat.reduceAdd, Nat.reduceSub, Array.replicate_succ, Array.replicate_zero, List.push_toArray, List.append_toArray, List.nil_append, List.cons_append]
  gi_wp2
  gi_loopw [3] (fun i wr => ∃ (k : Nat) (pre : List { j : Nat // j < zs.length }), i = .int .i64 (((zs.length - k : Nat) : Int) - 1) ∧ Aside0 (k ≤ zs.length ∧ pre.map Subtype.val = bkTo zs.length k) ∧ Aside0 (J pre wr) ∧ Aside0 (KpC ba br W wr))
    (fun i _ => (intOf i + 1).toNat)
  case atStart => exact ⟨0, [], by rw [HW0.out], ⟨Nat.zero_le _, rfl⟩, ⟨h0⟩, ⟨KpC.refl _ _ _⟩⟩
  case round =>
    obtain ⟨k, pre, rfl, HK, HJ, HP⟩ := hrel
    have hbs := HP.out.cell HS.out HN.out.1 HN.out.2
    by_cases hlt : k < zs.length
    · obtain ⟨j, hj⟩ : ∃ j, j = zs.length - (k + 1) := ⟨_, rfl⟩
      have hz := HZ.out
      have hjl : j < zs.length := by omega
      have ej : ((zs.length - k : Nat) : Int) - 1 = (j : Int) := by omega
      rw [ej]
      obtain ⟨a, ea, hx⟩ := Kd.at_int HC.out (j : Int) (by omega) (by omega)
      cases ea
      have hne := HA.out a rfl (j : Int).toNat (by omega)
      have hx2 := HP.out.cell hx hne.1 hne.2
      rw [Int.toNat_natCast] at hx2
      obtain ⟨fn, tmps, assign, body, hy, hR⟩ := HY.out pre ⟨j, hjl⟩ wr HJ.out (by have := congrArg List.length HK.out.2; rw [List.length_map, bkTo_len] at this; omega)
      dsimp only at hy
      have p1 := eq_true (show (0 : Int) ≤ (j : Int) by omega)
      have q1 := eq_true (show (j : Int) < (zs.length : Int) by omega)
      have HW1 := Aside0.mk (show wrap64 ((j : Int) - 1) = ((zs.length - (k + 1) : Nat) : Int) - 1 by unfold wrap64; omega)
      have HPRE := Aside0.mk (show (pre ++ [(⟨j, hjl⟩ : { j : Nat // j < zs.length })]).map Subtype.val = bkTo zs.length (k + 1) by rw [List.map_append, HK.out.2, bkTo]; show bkTo zs.length k ++ [j] = _; rw [hj])
      have HJL := Aside0.mk (show j < zs.length ∧ k < zs.length ∧ j = zs.length - (k + 1) ∧ zs.length ≤ 1048576 from ⟨hjl, hlt, hj, hz⟩)
      clear hx hne ej hj hz hlt
      gi_wp2
      refine hR.mono ?_
      rintro e W3 (⟨rfl, hJ3, hk3⟩ | ⟨rfl, hJx3⟩)
      · gi_wp2
        go_roundw
        case rel => exact ⟨k + 1, _, by rw [HW1.out], ⟨HJL.out.2.1, HPRE.out⟩, ⟨hJ3⟩, ⟨HP.out.trans hk3⟩⟩
        case measure => have := HJL.out; rw [HW1.out]; simp [intOf]; omega
      · gi_wp2
        refine bodyPost_ret (results_none rfl _ _ _) rfl ?_
        exact ⟨⟨_, rfl⟩, .inr ⟨_, ⟨k + 1, HJL.out.2.1, HPRE.out⟩, hJx3⟩⟩
    · have hk : k = zs.length := by have := HK.out.1; omega
      have ej : ((zs.length - k : Nat) : Int) - 1 = -1 := by omega
      rw [ej]
      subst hk
      gi_wp2
      go_end0
      exact ⟨⟨_, rfl⟩, .inl ⟨pre, HK.out.2, HJ.out⟩⟩
set_option maxHeartbeats 1000000 in
/-- slices.Backward: the slice is boxed; the function value captures the box. -/
theorem bk_value (a : Option Addr) (len cap : Nat) (w : World) : Calls Try.prog 82 #[.slice a len cap] w fun e w' => e = .returned (.func (.func 89) #[] #[.pointer (some ⟨w.heap.size, 0, none⟩)]) ∧ w' = w.alloc (.cells #[.slice a len cap] 22) := by
  go_enter Try.func82, Try.ntmps82
  go_wp2
  go_ret
  exact ⟨rfl, rfl⟩
/-- A slab at place j of the order is bad. -/
def stBad (l0 : List S51) (l1 : List Int) (j : Nat) (a : Int) : Bool := (l1.take j).contains (rd l1 (j : Int)) || decide (a > (rd_T51 l0 (rd l1 (j : Int))).f1)
def stStep (l0 : List S51) (l1 : List Int) (o : Option Int) (j : Nat) : Option Int := o.bind fun a => if stBad l0 l1 j a then none else some (wrap64 (a + (rd_T51 l0 (rd l1 (j : Int))).f0))
/-- The weight that lies above, if all places so far are good. -/
def stRun (l0 : List S51) (l1 : List Int) (js : List Nat) : Option Int := js.foldl (stStep l0 l1) (some 0)
theorem stRun_snoc (l0 : List S51) (l1 : List Int) (js : List Nat) (j : Nat) : stRun l0 l1 (js ++ [j]) = stStep l0 l1 (stRun l0 l1 js) j := by simp [stRun]
theorem stFold_none (l0 : List S51) (l1 : List Int) (js : List Nat) : js.foldl (stStep l0 l1) none = none := by
  induction js with
  | nil => rfl
  | cons j js ih => simpa [stStep] using ih
theorem bkTo_split (n k : Nat) (d : Nat) : ∃ r, bkTo n (k + d) = bkTo n k ++ r := by
  induction d with
  | zero => exact ⟨[], by simp⟩
  | succ d ih =>
    obtain ⟨r, hr⟩ := ih
    exact ⟨r ++ [n - (k + d + 1)], by rw [← Nat.add_assoc, bkTo, hr, List.append_assoc]⟩
theorem stRun_stop (l0 : List S51) (l1 : List Int) (n k : Nat) (hk : k ≤ n) (h : stRun l0 l1 (bkTo n k) = none) : stRun l0 l1 (bkTo n n) = none := by
  obtain ⟨r, hr⟩ := bkTo_split n k (n - k)
  rw [show k + (n - k) = n by omega] at hr
  rw [hr]
  unfold stRun at h ⊢
  rw [List.foldl_append, h, stFold_none]
theorem st_index (xs : List Int) (a : Int) (hx : xs.length ≤ 1048576) (d : Nat) : ∀ (j : Nat), xs.length - j = d → j ≤ xs.length → ∃ k r, slices_Index_int_int.l0 k xs a (xs.length : Int) (j : Int) = some r ∧ (decide (r ≥ 0) = (xs.drop j).contains a) := by
  induction d with
  | zero =>
    intro j hd hj
    refine ⟨1, -1, ?_, ?_⟩
    · simp only [slices_Index_int_int.l0]
      rw [if_neg (by omega)]
    · rw [List.drop_of_length_le (by omega)]; rfl
  | succ d ih =>
    intro j hd hj
    have hj1 : j < xs.length := by omega
    have e : rd xs (j : Int) = xs[j] := by simp [rd, List.getD_eq_getElem?_getD, List.getElem?_eq_getElem hj1]
    rw [List.drop_eq_getElem_cons hj1]
    by_cases c : a = xs[j]
    · refine ⟨1, (j : Int), ?_, ?_⟩
      · simp only [slices_Index_int_int.l0]
        rw [if_pos (by omega), if_pos (by omega), if_pos (by omega), e, if_pos c]
      · rw [decide_eq_true (show (j : Int) ≥ 0 by omega), List.contains_cons, show (a == xs[j]) = true from beq_iff_eq.mpr c, Bool.true_or]
    · obtain ⟨k, r, h1, h2⟩ := ih (j + 1) (by omega) (by omega)
      refine ⟨k + 1, r, ?_, ?_⟩
      · simp only [slices_Index_int_int.l0]
        have hw : wrap64 ((j : Int) + 1) = ((j + 1 : Nat) : Int) := by unfold wrap64; omega
        rw [if_pos (by omega), if_pos (by omega), if_pos (by omega), e, if_neg c, hw, h1]
      · rw [h2, List.contains_cons, show (a == xs[j]) = false from beq_eq_false_iff_ne.mpr c, Bool.false_or]
theorem st_contains (xs : List Int) (a : Int) (hx : xs.length ≤ 1048576) : ∃ k, slices_Contains_int_int.f k xs a = some (xs.contains a) := by
  obtain ⟨k, r, h1, h2⟩ := st_index xs a hx xs.length 0 (by omega) (by omega)
  refine ⟨k, ?_⟩
  unfold slices_Contains_int_int.f slices_Index_int_int.f
  rw [show ((0 : Nat) : Int) = 0 from rfl] at h1
  rw [h1]
  simp only [Option.bind_some]
  rw [h2]
  rfl
/-- The boxes while the order is gone through. -/
structure StC (A0 : Option Addr) (n0 c0 : Nat) (A1 : Option Addr) (n1 c1 : Nat) (g bA : Nat) (w0 W : World) : Prop where
  below : Below w0.heap.size w0 W
  cs : W.cell? ⟨g, 0, none⟩ = some (.slice A0 n0 c0)
  co : W.cell? ⟨g + 1, 0, none⟩ = some (.slice A1 n1 c1)
  cr : W.cell? ⟨g + 1 + 1, 0, none⟩ = some (.bool false)
  fr : W.frozen? ⟨g + 1 + 1, 0, none⟩ = false
  fa : W.frozen? ⟨bA, 0, none⟩ = false
  hb : w0.heap.size ≤ g ∧ g + 1 + 1 < bA
theorem StC.own {A0 : Option Addr} {n0 c0 : Nat} {A1 : Option Addr} {n1 c1 g bA B : Nat} {w0 W W' : World} {row : Option Nat} {v : Value} (h : StC A0 n0 c0 A1 n1 c1 g bA w0 W) (hv : W.cell? ⟨bA, 0, none⟩ = some v) (hB : w0.heap.size ≤ B) (hg : W.grownBy W' row) (hr : ∀ r, row = some r → B ≤ r ∧ ∃ o : Obj, W.heap[r]? = some o ∧ o.isCells = false) :
    StC A0 n0 c0 A1 n1 c1 g bA w0 W' ∧ W'.cell? ⟨bA, 0, none⟩ = some v := by
  have hr2 := fun r e => (hr r e).2
  exact ⟨⟨h.below.grown hg h.below.size (fun k e => Nat.le_trans hB (hr k e).1), cell_kept h.cs hg hr2, cell_kept h.co hg hr2, cell_kept h.cr hg hr2, (frozen_kept h.cr hg hr2).trans h.fr, (frozen_kept hv hg hr2).trans h.fa, h.hb⟩, cell_kept hv hg hr2⟩
open Go.Proofs.Ytnppcpjkjepfeaa.Round
def isStack.T7 : Bool × List (List Nat × List Nat) := (true, [([], []), ([], []), ([0, 1], [0, 1]), ([], []), ([2, 3], [2, 3]), ([4, 4], [4]), ([5], [5]), ([5], [5]), ([5], [5]), ([7, 8, 5], [5, 7, 8]), ([9, 5], [5, 9]), ([10, 5], [5, 10]), ([6, 11, 5], [5, 6, 11]), ([5, 12], [5, 12])])
def isStack.B7 : List Nat := [0, 0, 3, 0, 15, 31, 63, 63, 63, 447, 959, 1983, 4095, 8191]
theorem isStack.tab7 : rtab .any (opsOf Try.f65 7) = isStack.T7 := by kernel_rfl
theorem isStack.bits7 : waitsOk isStack.T7.2 isStack.B7 = true := by kernel_rfl
def isStack.T9 : Bool × List (List Nat × List Nat) := (true, [([], []), ([], []), ([], []), ([1, 2], [1, 2]), ([3], [3]), ([4], [4]), ([0, 5], [0, 5]), ([6, 0, 1, 2, 3, 4, 5, 6], [6])])
def isStack.B9 : List Nat := [0, 0, 0, 6, 14, 30, 63, 127]
theorem isStack.tab9 : rtab .any (opsOf Try.f65 9) = isStack.T9 := by kernel_rfl
theorem isStack.bits9 : waitsOk isStack.T9.2 isStack.B9 = true := by kernel_rfl
theorem st_far {W : World} {b : Nat} {v : Value} {p : Addr} (h : W.cell? ⟨b, 0, none⟩ = some v) (hne : b ≠ p.block) (n : Nat) (u : Value) : ((W.drewN n).setCell p u).cell? ⟨b, 0, none⟩ = some v :=
  (World.cell?_of_block (Below.heap_setCell (W.drewN n) p u _ hne)).trans h
theorem st_keeps (B : Nat) (W : World) (n : Nat) (p : Addr) (v : Value) : KeepsFrom B W ((W.drewN n).setCell p v) := ((⟨Nat.le_refl _, fun _ _ h _ => h⟩ : KeepsOthers W (W.drewN n)).trans (KeepsOthers.setCell _ _ _)).from B
theorem StC.drewN {A0 : Option Addr} {n0 c0 : Nat} {A1 : Option Addr} {n1 c1 g bA : Nat} {w0 W : World} (h : StC A0 n0 c0 A1 n1 c1 g bA w0 W) (n : Nat) : StC A0 n0 c0 A1 n1 c1 g bA w0 (W.drewN n) :=
  ⟨pw_below_drewN h.below n, h.cs, h.co, h.cr, h.fr, h.fa, h.hb⟩
theorem StC.stop {A0 : Option Addr} {n0 c0 : Nat} {A1 : Option Addr} {n1 c1 g bA : Nat} {w0 W : World} (h : StC A0 n0 c0 A1 n1 c1 g bA w0 W) (n : Nat) : StC A0 n0 c0 A1 n1 c1 g bA w0 ((W.drewN n).setCell ⟨g + 1 + 1, 0, none⟩ (.bool false)) :=
  have h' := h.drewN n
  ⟨h'.below.setCell (by have := h.hb; simp only []; omega) _, st_far h.cs (by simp only []; omega) _ _, st_far h.co (by simp only []; omega) _ _, World.cell?_setCell_same' _ _ _ (by rw [h'.cr]; rfl), by rw [World.frozen?_setCell]; exact h'.fr, by rw [World.frozen?_setCell]; exact h'.fa, h.hb⟩
theorem StC.step {A0 : Option Addr} {n0 c0 : Nat} {A1 : Option Addr} {n1 c1 g bA : Nat} {w0 W : World} (h : StC A0 n0 c0 A1 n1 c1 g bA w0 W) (n : Nat) (v : Value) : StC A0 n0 c0 A1 n1 c1 g bA w0 ((W.drewN n).setCell ⟨bA, 0, none⟩ v) :=
  have h' := h.drewN n
  have hb := h.hb
  ⟨h'.below.setCell (by simp only []; omega) _, st_far h.cs (by simp only []; omega) _ _, st_far h.co (by simp only []; omega) _ _, st_far h.cr (by simp only []; omega) _ _, by rw [World.frozen?_setCell]; exact h'.fr, by rw [World.frozen?_setCell]; exact h'.fa, h.hb⟩
def impl_isStack.f (l0 : List S51) (l1 : List Int) : Option Bool :=
  if l1.length ≤ 1048576 ∧ l0.length ≤ 1048576 then (impl_areWithin.f l1 0 (wrap64 ((l0.length : Int) - 1))).bind fun t => if t = true then some (stRun l0 l1 (bkTo l1.length l1.length)).isSome else some false else none
set_option maxHeartbeats 4000000 in
set_option maxRecDepth 100000 in
theorem impl_isStack.calls (A0 : Option Addr) (c0 : Nat) (l0 : List S51) (A1 : Option Addr) (c1 : Nat) (l1 : List Int) (r : Bool) (w : World) (hr0 : Kd.C k51 w A0 l0.length l0) (hc0 : l0.length ≤ c0) (hr1 : Kd.C (Kd.int .i64) w A1 l1.length l1) (hc1 : l1.length ≤ c1) (h : impl_isStack.f l0 l1 = some r) :
    Calls Try.prog 65 #[.slice A0 l0.length c0, .slice A1 l1.length c1] w fun e w' => e = .returned (.bool r) ∧ Below w.heap.size w w' := by
  unfold impl_isStack.f at h
  by_cases hx : l1.length ≤ 1048576 ∧ l0.length ≤ 1048576
  · rw [if_pos hx] at h
    obtain ⟨t, ht, h⟩ := Option.bind_eq_some_iff.mp h
    have hWITH := fun (W : World) (hB : Below w.heap.size w W) => impl_areWithin.calls A1 c1 l1 0 (wrap64 ((l0.length : Int) - 1)) t W (Kd.C_below hr1 hB) hc1 ht
    have HWITH := Aside0.mk hWITH
    have HC3 := Aside0.mk (show (((w.alloc (.cells #[.slice A0 l0.length c0] 29)).alloc (.cells #[.slice A1 l1.length c1] 22)).alloc (.cells #[.bool false] 4)).cell? ⟨w.heap.size + 1 + 1, 0, none⟩ = some (.bool false) by go_simp)
    have HF3 := Aside0.mk (show (((w.alloc (.cells #[.slice A0 l0.length c0] 29)).alloc (.cells #[.slice A1 l1.length c1] 22)).alloc (.cells #[.bool false] 4)).frozen? ⟨w.heap.size + 1 + 1, 0, none⟩ = false by go_simp)
    have HC0 := Aside0.mk (show (((w.alloc (.cells #[.slice A0 l0.length c0] 29)).alloc (.cells #[.slice A1 l1.length c1] 22)).alloc (.cells #[.bool false] 4)).cell? ⟨w.heap.size, 0, none⟩ = some (.slice A0 l0.length c0) by go_simp)
    have HC1 := Aside0.mk (show (((w.alloc (.cells #[.slice A0 l0.length c0] 29)).alloc (.cells #[.slice A1 l1.length c1] 22)).alloc (.cells #[.bool false] 4)).cell? ⟨w.heap.size + 1, 0, none⟩ = some (.slice A1 l1.length c1) by go_simp)
    have HB3 := Aside0.mk (show Below w.heap.size w (((w.alloc (.cells #[.slice A0 l0.length c0] 29)).alloc (.cells #[.slice A1 l1.length c1] 22)).alloc (.cells #[.bool false] 4)) by repeat (first | exact Below.refl _ _ | apply below_alloc))
    cases t with
    | false =>
      simp only [Bool.false_eq_true, if_false, Option.some.injEq] at h
      subst h
      clear hWITH hr0 hc0 hr1 hc1 hx ht
      go_enter Try.func65, Try.ntmps65
      go_wp2_with (go_at_call 48; (with_reducible refine (HWITH.out _ ?hB).mono ?_); (case hB => repeat (first | exact Below.refl _ _ | apply below_alloc | apply pw_below_drewN | apply below_drew1)); rintro e w' ⟨rfl, hb⟩; have hcr := (hb.cell (World.block_lt_of_cell? _ _ HC3.out)).trans HC3.out; have hfr := (World.frozen?_of_block (hb.block _ (World.block_lt_of_cell? _ _ HC3.out))).trans HF3.out)
      have HB := Aside0.mk hb
      clear hb
      go_wp2
      refine bodyPost_ret (v := .bool false) ?_ rfl ⟨rfl, ?_⟩
      · have hcr2 := World.cell?_setCell_same' w' ⟨w.heap.size + 1 + 1, 0, none⟩ (.bool false) (by rw [hcr]; rfl)
        simp [results, Try.f65, go_sem, hcr2]
      · exact (HB3.out.trans (HB.out.mono HB3.out.size)).setCell (by simp; omega) _
    | true =>
      simp only [if_true, Option.some.injEq] at h
      clear hWITH
      refine (callsIn_wide (n := 4)).1 ?_
      refine callsIn_of_wp_marks Try.func65 rfl trivial ?_ rfl
      simp only [Try.ntmps65, List.size_toArray, List.length_cons, List.length_nil, Nat.reduceAdd, Nat.reduceSub, Array.replicate_succ, Array.replicate_zero, List.push_toArray, List.append_toArray, List.nil_append, List.cons_append]
      have HRR := Aside0.mk (show _ ∧ _ ∧ _ ∧ _ ∧ _ ∧ _ ∧ _ from ⟨hr0, hc0, hr1, hc1, hx, ht, h⟩)
      clear hr0 hc0 hr1 hc1 hx ht h
      gi_wp2_with (first | (refine ⟨trivial, ?_⟩; gi_at_call 48; (with_reducible refine (callsIn_wide.2 (HWITH.out _ HB3.out)).mono ?_); rintro e w' ⟨rfl, hb⟩; have hco0 := (hb.cell (World.block_lt_of_cell? _ _ HC1.out)).trans HC1.out; have hco := (((Below.refl _ w').alloc (Nat.le_refl _) (.cells #[.int .i64 0] 3)).cell (World.block_lt_of_cell? _ _ hco0)).trans hco0; have HB := Aside0.mk hb; clear hb hco0) | (refine ⟨trivial, ?_⟩; gi_at_call 82; (with_reducible refine (callsIn_wide.2 (bk_value A1 l1.length c1 _)).mono ?_); rintro e w2 ⟨rfl, rfl⟩))
      have hc0w := (HB.out.cell (World.block_lt_of_cell? _ _ HC0.out)).trans HC0.out
      have hc1w := (HB.out.cell (World.block_lt_of_cell? _ _ HC1.out)).trans HC1.out
      have hc2w := (HB.out.cell (World.block_lt_of_cell? _ _ HC3.out)).trans HC3.out
      have hf2w := (World.frozen?_of_block (HB.out.block _ (World.block_lt_of_cell? _ _ HC3.out))).trans HF3.out
      have hbw : Below w.heap.size w w' := HB3.out.trans (HB.out.mono HB3.out.size)
      have hlt2 := World.block_lt_of_cell? w' _ hc2w
      simp only [] at hlt2
      have hB2 : Below w'.heap.size w' ((w'.alloc (.cells #[.int .i64 0] 3)).alloc (.cells #[.slice A1 l1.length c1] 22)) := ((Below.refl _ w').alloc (Nat.le_refl _) _).alloc (by simp) _
      have hca2 : ((w'.alloc (.cells #[.int .i64 0] 3)).alloc (.cells #[.slice A1 l1.length c1] 22)).cell? ⟨w'.heap.size, 0, none⟩ = some (.int .i64 0) := by go_simp
      have hfa2 : ((w'.alloc (.cells #[.int .i64 0] 3)).alloc (.cells #[.slice A1 l1.length c1] 22)).frozen? ⟨w'.heap.size, 0, none⟩ = false := by go_simp
      have hcb2 : ((w'.alloc (.cells #[.int .i64 0] 3)).alloc (.cells #[.slice A1 l1.length c1] 22)).cell? ⟨w'.heap.size + 1, 0, none⟩ = some (.slice A1 l1.length c1) := by go_simp
      have hSt : StC A0 l0.length c0 A1 l1.length c1 w.heap.size w'.heap.size w ((w'.alloc (.cells #[.int .i64 0] 3)).alloc (.cells #[.slice A1 l1.length c1] 22)) :=
        ⟨hbw.trans (hB2.mono hbw.size), (hB2.cell (World.block_lt_of_cell? _ _ hc0w)).trans hc0w, (hB2.cell (World.block_lt_of_cell? _ _ hc1w)).trans hc1w, (hB2.cell (World.block_lt_of_cell? _ _ hc2w)).trans hc2w, (World.frozen?_of_block (hB2.block _ (World.block_lt_of_cell? _ _ hc2w))).trans hf2w, hfa2, Nat.le_refl _, hlt2⟩
      have hsz : w.heap.size ≤ ((w'.alloc (.cells #[.int .i64 0] 3)).alloc (.cells #[.slice A1 l1.length c1] 22)).heap.size := by have := hbw.size; simp; omega
      have hszA : w'.heap.size < ((w'.alloc (.cells #[.int .i64 0] 3)).alloc (.cells #[.slice A1 l1.length c1] 22)).heap.size := by simp; omega
      generalize hbA : w'.heap.size = bA at *
      generalize ((w'.alloc (.cells #[.int .i64 0] 3)).alloc (.cells #[.slice A1 l1.length c1] 22)) = W0 at *
      obtain ⟨hr0, hc0, hr1, hc1, hx, ht, hfin⟩ := HRR.out
      have hrange : ∀ j, j < l1.length → 0 ≤ rd l1 (j : Int) ∧ rd l1 (j : Int) < (l0.length : Int) := by
        intro j hj
        have e : rd l1 (j : Int) = l1[j] := by simp [rd, List.getD_eq_getElem?_getD, List.getElem?_eq_getElem hj]
        unfold impl_areWithin.f at ht
        have h1 := Option.some.inj ht
        simp only [Bool.not_eq_true', List.any_eq_false] at h1
        have h2 := h1 l1[j] (List.getElem_mem hj)
        simp only [Bool.not_eq_true', decide_eq_true_eq, Decidable.not_not, Bool.not_eq_eq_eq_not, Bool.not_true, decide_eq_false_iff_not] at h2
        have h3 : wrap64 ((l0.length : Int) - 1) = (l0.length : Int) - 1 := by unfold wrap64; omega
        rw [h3] at h2
        omega
      refine wpIn_rangeFunc_ownG rfl (by omega) (gf := 89) (lb := #[.pointer (some ⟨bA + 1, 0, none⟩)]) rfl trivial (enters_of Try.func89 (by kernel_rfl) rfl)
        (bk_stops (bA + 1) bA (w.heap.size + 1 + 1) A1 l1 c1 W0 hx.1 hcb2 (by omega) (by omega) (Kd.C_below hr1 hSt.below) (fun a ea j hj => by
          obtain ⟨a2, e2, h2⟩ := Kd.at_int hr1 (j : Int) (by omega) (by omega)
          have e3 : a = a2 := by rw [ea] at e2; exact Option.some.inj e2
          subst e3
          have h4 := World.block_lt_of_cell? w _ h2
          rw [Int.toNat_natCast] at h4
          omega)) (fun h k => KpC.trans h k) (fun W l o o' _ ho hc _ => KpC.putObj _ _ W l o o' ho hc) (Below.refl _ _) (fun _ => rfl)
        (fun pre W => ∃ a, stRun l0 l1 (pre.map Subtype.val) = some a ∧ StC A0 l0.length c0 A1 l1.length c1 w.heap.size bA w W ∧ W.cell? ⟨bA, 0, none⟩ = some (.int .i64 a))
        (fun c pre W => c = .ret ∧ stRun l0 l1 (pre.map Subtype.val) = none ∧ StC A0 l0.length c0 A1 l1.length c1 w.heap.size bA w W ∧ ∃ a, W.cell? ⟨bA, 0, none⟩ = some (.int .i64 a))
        (fun s A B row ⟨a, h1, h2, h3⟩ hg hr => ⟨a, h1, h2.own h3 hsz hg hr⟩)
        (fun c s A B row ⟨h0, h1, h2, a, h3⟩ hg hr => ⟨h0, h1, (h2.own h3 hsz hg hr).1, a, (h2.own h3 hsz hg hr).2⟩)
        ⟨0, rfl, hSt, hca2⟩
        (fun x => { tmps := #[.slice A0 l0.length c0, .slice A1 l1.length c1, .pointer (some ⟨w.heap.size, 0, none⟩), .pointer (some ⟨w.heap.size + 1, 0, none⟩), .pointer (some ⟨w.heap.size + 1 + 1, 0, none⟩), .pointer (some ⟨bA, 0, none⟩), .int .i64 (x.1 : Int), .int .i64 (rd l1 (x.1 : Int)), .slice A1 l1.length c1, .slice A0 l0.length c0, .int .i64 (l0.length : Int), .int .i64 (wrap64 ((l0.length : Int) - 1)), .bool true, .bool false, .slice A1 l1.length c1, .func (.func 89) #[] #[.pointer (some ⟨bA + 1, 0, none⟩)], .int .i64 (x.1 : Int), .int .i64 (rd l1 (x.1 : Int)), undef, undef, undef, undef, undef, undef, undef, undef, undef, undef, undef, undef, undef, undef, undef, undef, undef, undef, undef, undef, undef], defers := [] }) ?assign ?body ?done ?stop
      case assign =>
        intro l x W K hK
        gi_wp2
        exact hK
      case body =>
        rintro l pre ⟨j, hj⟩ W ⟨a, hst, hS, hA⟩ _
        have hin := hrange j hj
        obtain ⟨ads, es, hs0, hs1⟩ := at_T51 (Kd.C_below hr0 hS.below) (rd l1 (j : Int)) hin.1 hin.2
        cases es
        obtain ⟨k, hk⟩ := st_contains (l1.take (j : Int).toNat) (rd l1 (j : Int)) (by rw [List.length_take]; omega)
        obtain ⟨cb, hcb⟩ : ∃ cb, cb = (l1.take (j : Int).toNat).contains (rd l1 (j : Int)) := ⟨_, rfl⟩
        rw [← hcb] at hk
        obtain ⟨i0, hi0, _, hsz0, _⟩ := info_parts info3
        obtain ⟨hcut, hA2, hC2⟩ := print_take_of (P := Try.prog) (Value.int .i64) 0 22 3 .i64 Try.underlying22 hi0 hsz0 A1 c1 l1 (j : Int) (by omega) (by omega) hc1
        have hlen : (l1.take (j : Int).toNat).length = j := by rw [List.length_take]; omega
        have hcon := (fun (W2 : World) (hB : Below W.heap.size W W2) => slices_Contains_int_int.calls k A1 c1 (l1.take (j : Int).toNat) (rd l1 (j : Int)) cb W2 (Kd.C_of_reads (h1 := fun _ => rfl) (hA2 _ (Kd.reads_of_C (d := 0) (Kd.C_below hr1 (hS.below.trans (hB.mono hS.below.size)))))) hC2 hk)
        rw [hlen] at hcon hcut
        have HCON := Aside0.mk hcon
        have HBAD := Aside0.mk (show stRun l0 l1 ((pre ++ [(⟨j, hj⟩ : { j : Nat // j < l1.length })]).map Subtype.val) = if (cb || decide (a > (rd_T51 l0 (rd l1 (j : Int))).f1)) = true then none else some (wrap64 (a + (rd_T51 l0 (rd l1 (j : Int))).f0)) by
          rw [List.map_append]
          show stRun l0 l1 (pre.map Subtype.val ++ [j]) = _
          rw [stRun_snoc, hst]
          simp only [stStep, Option.bind_some, stBad]
          rw [hcb, Int.toNat_natCast]
          rfl)
        have hco := hS.co
        have hcs := hS.cs
        have hcr := hS.cr
        have hfr := hS.fr
        have hfa := hS.fa
        have HS := Aside0.mk hS
        have HA := Aside0.mk hA
        have hmx : Try.prog.follows .mixedOrders = true := by kernel_rfl
        have HIN := Aside0.mk hin
        have p1 := eq_true hin.1
        have q1 := eq_true hin.2
        have HRAN := Aside0.mk hrange
        have HBA := Aside0.mk (show w.heap.size + 1 + 1 < bA ∧ w.heap.size ≤ W0.heap.size from ⟨hlt2, hsz⟩)
        clear hcon hlen hr0 hc0 hr1 hc1 hx ht hrange hst hS hin hk hcb hi0 hsz0 hA2 hC2 hSt hsz hszA hca2 hfa2 hcb2 hB2 hlt2 hbw hf2w hc2w hc1w hc0w hbA
        cases cb with
        | true =>
          gi_wp2
          refine startR_ (n := 14) (S := (fun w' => w'.cell? ⟨w.heap.size + 1, 0, none⟩ = some (.slice A1 l1.length c1) ∧ w'.cell? ⟨bA, 0, none⟩ = some (.int .i64 a) ∧ w'.cell? ⟨w.heap.size, 0, none⟩ = some (.slice (some ads) l0.length c0) ∧ w'.cell? ⟨(ads.add ((rd l1 (j : Int)).toNat * 2)).block, (ads.add ((rd l1 (j : Int)).toNat * 2)).off + 1, none⟩ = some (.int .i64 (rd_T51 l0 (rd l1 (j : Int))).f1))) (ds := []) #[false, false, false, false, false, false, false, false, false, false, false, false, false, false] hmx (by kernel_rfl) (fun ⟨_, _, h⟩ => h) rfl rfl ⟨hco, hA, hcs, hs1⟩ (fun hHeld => ?_); refine with_tabW isStack.tab7 isStack.bits7 (fun HT_ HW_ => ?_)
          refine take_ (i := 0) (N := some 18) (v := ?_) (a' := ?_) #[true, false, false, false, false, false, false, false, false, false, false, false, false, false] rfl rfl (take_ofW HT_.out HW_.out (by kernel_rfl)) (fun _ _ _ h => h) (Or.inl ⟨by rfl, ?_⟩) hHeld ?_ ?_
          rotate_left
          · rintro w' ⟨s0, s1, s2, s3⟩
            go_simp
            with_reducible rfl
          rotate_left
          · simp only [Act.put, List.setIfInBounds_toArray, List.set_cons_zero, List.set_cons_succ, i64_w, i32_w]
            rfl
          refine pure_ (i := 1) (N := some 19) (v := ?_) (a' := ?_) #[true, true, false, false, false, false, false, false, false, false, false, false, false, false] rfl rfl (any_of HT_.out (by kernel_rfl)) (fun _ _ _ h => h) (Or.inl ⟨by rfl, ?_⟩) ?_ ?_
          rotate_left
          · intro w'
            go_simp
            with_reducible rfl
          rotate_left
          · simp only [Act.put, List.setIfInBounds_toArray, List.set_cons_zero, List.set_cons_succ, i64_w, i32_w]
            rfl
          refine pure_ (i := 2) (N := some 20) (v := ?_) (a' := ?_) #[true, true, true, false, false, false, false, false, false, false, false, false, false, false] rfl rfl (any_of HT_.out (by kernel_rfl)) (fun _ _ _ h => h) (Or.inl ⟨by rfl, ?_⟩) ?_ ?_
          rotate_left
          · intro w'
            go_simp
            with_reducible rfl
          rotate_left
          · simp only [Act.put, List.setIfInBounds_toArray, List.set_cons_zero, List.set_cons_succ, i64_w, i32_w]
            rfl
          refine pure_ (i := 3) (N := some 21) (v := ?_) (a' := ?_) #[true, true, true, true, false, false, false, false, false, false, false, false, false, false] rfl rfl (any_of HT_.out (by kernel_rfl)) (fun _ _ _ h => h) (Or.inl ⟨by rfl, ?_⟩) ?_ ?_
          rotate_left
          · intro w'
            go_simp
            with_reducible rfl
          rotate_left
          · simp only [Act.put, List.setIfInBounds_toArray, List.set_cons_zero, List.set_cons_succ, i64_w, i32_w]
            rfl
          refine one_ (i := 4) (N := some 22) #[true, true, true, true, true, false, false, false, false, false, false, false, false, false] rfl rfl (one_of HT_.out (by kernel_rfl)) (by decide) (fun K hK => ?_)
          refine goes_ Try.func83 (by kernel_rfl) rfl #[.slice A1 j c1, .int .i64 (rd l1 (j : Int))] (by rfl) rfl rfl (by (try simp only [List.map_toArray, List.map_cons, List.map_nil]); first | done | rfl) ?_
          refine (HCON.out _ (by repeat (first | exact Below.refl _ _ | apply pw_below_drewN | apply below_drew1))).mono ?_
          rintro e w' ⟨rfl, ⟨nd, rfl⟩⟩
          refine ⟨_, rfl, ?_⟩
          refine hK.out _ _ hHeld (fun _ => ?_)
          clear hK K
          refine norm_ (a' := ?_) ?_ ?_
          rotate_left
          · show Act.put _ (some 22) _ = _
            simp only [Act.put, List.setIfInBounds_toArray, List.set_cons_zero, List.set_cons_succ, i64_w, i32_w]
            rfl
          refine pure_ (i := 5) (N := some 23) (v := ?_) (a' := ?_) #[true, true, true, true, true, true, false, false, false, false, false, false, false, false] rfl rfl (any_of HT_.out (by kernel_rfl)) (fun _ _ _ h => h) (Or.inl ⟨by rfl, ?_⟩) ?_ ?_
          rotate_left
          · intro w'
            go_simp
            with_reducible rfl
          rotate_left
          · simp only [Act.put, List.setIfInBounds_toArray, List.set_cons_zero, List.set_cons_succ, i64_w, i32_w]
            rfl
          refine pure_ (i := 6) (N := some 24) (v := undef) (a' := ?_) #[true, true, true, true, true, true, true, false, false, false, false, false, false, false] rfl rfl (any_of HT_.out (by kernel_rfl)) (fun _ _ _ h => h) (Or.inr ⟨by rfl, rfl⟩) ?_ ?_
          rotate_left
          · simp only [Act.put, List.setIfInBounds_toArray, List.set_cons_zero, List.set_cons_succ, i64_w, i32_w]
            rfl
          refine pure_ (i := 7) (N := some 25) (v := undef) (a' := ?_) #[true, true, true, true, true, true, true, true, false, false, false, false, false, false] rfl rfl (any_of HT_.out (by kernel_rfl)) (fun _ _ _ h => h) (Or.inr ⟨by rfl, rfl⟩) ?_ ?_
          rotate_left
          · simp only [Act.put, List.setIfInBounds_toArray, List.set_cons_zero, List.set_cons_succ, i64_w, i32_w]
            rfl
          refine pure_ (i := 8) (N := some 26) (v := undef) (a' := ?_) #[true, true, true, true, true, true, true, true, true, false, false, false, false, false] rfl rfl (any_of HT_.out (by kernel_rfl)) (fun _ _ _ h => h) (Or.inr ⟨by rfl, rfl⟩) ?_ ?_
          rotate_left
          · simp only [Act.put, List.setIfInBounds_toArray, List.set_cons_zero, List.set_cons_succ, i64_w, i32_w]
            rfl
          refine pure_ (i := 9) (N := some 27) (v := undef) (a' := ?_) #[true, true, true, true, true, true, true, true, true, true, false, false, false, false] rfl rfl (any_of HT_.out (by kernel_rfl)) (fun _ _ _ h => h) (Or.inr ⟨by rfl, rfl⟩) ?_ ?_
          rotate_left
          · simp only [Act.put, List.setIfInBounds_toArray, List.set_cons_zero, List.set_cons_succ, i64_w, i32_w]
            rfl
          refine pure_ (i := 10) (N := some 28) (v := undef) (a' := ?_) #[true, true, true, true, true, true, true, true, true, true, true, false, false, false] rfl rfl (any_of HT_.out (by kernel_rfl)) (fun _ _ _ h => h) (Or.inr ⟨by rfl, rfl⟩) ?_ ?_
          rotate_left
          · simp only [Act.put, List.setIfInBounds_toArray, List.set_cons_zero, List.set_cons_succ, i64_w, i32_w]
            rfl
          refine pure_ (i := 11) (N := some 29) (v := undef) (a' := ?_) #[true, true, true, true, true, true, true, true, true, true, true, true, false, false] rfl rfl (any_of HT_.out (by kernel_rfl)) (fun _ _ _ h => h) (Or.inr ⟨by rfl, rfl⟩) ?_ ?_
          rotate_left
          · simp only [Act.put, List.setIfInBounds_toArray, List.set_cons_zero, List.set_cons_succ, i64_w, i32_w]
            rfl
          refine pure_ (i := 12) (N := some 30) (v := undef) (a' := ?_) #[true, true, true, true, true, true, true, true, true, true, true, true, true, false] rfl rfl (any_of HT_.out (by kernel_rfl)) (fun _ _ _ h => h) (Or.inr ⟨by rfl, rfl⟩) ?_ ?_
          rotate_left
          · simp only [Act.put, List.setIfInBounds_toArray, List.set_cons_zero, List.set_cons_succ, i64_w, i32_w]
            rfl
          refine pure_ (i := 13) (N := some 31) (v := ?_) (a' := ?_) #[true, true, true, true, true, true, true, true, true, true, true, true, true, true] rfl rfl (any_of HT_.out (by kernel_rfl)) (fun _ _ _ h => h) (Or.inl ⟨by rfl, ?_⟩) ?_ ?_
          rotate_left
          · intro w'
            go_simp
            with_reducible rfl
          rotate_left
          · simp only [Act.put, List.setIfInBounds_toArray, List.set_cons_zero, List.set_cons_succ, i64_w, i32_w]
            rfl
          refine done_ (done_of HT_.out (by kernel_rfl)) ?_
          gi_wp2
          exact ⟨st_keeps _ _ _ _ _, rfl, by rw [HBAD.out]; rfl, HS.out.stop _, a, st_far HA.out (by have := HBA.out; simp only []; omega) _ _⟩
        | false =>
          by_cases cg : a > (rd_T51 l0 (rd l1 (j : Int))).f1
          · have cgb : decide ((rd_T51 l0 (rd l1 (j : Int))).f1 < a) = true := decide_eq_true cg
            have HBAD2 := Aside0.mk (show stRun l0 l1 ((pre ++ [(⟨j, hj⟩ : { j : Nat // j < l1.length })]).map Subtype.val) = none by rw [HBAD.out, decide_eq_true cg]; rfl)
            clear cg
            gi_wp2
            refine startR_ (n := 14) (S := (fun w' => w'.cell? ⟨w.heap.size + 1, 0, none⟩ = some (.slice A1 l1.length c1) ∧ w'.cell? ⟨bA, 0, none⟩ = some (.int .i64 a) ∧ w'.cell? ⟨w.heap.size, 0, none⟩ = some (.slice (some ads) l0.length c0) ∧ w'.cell? ⟨(ads.add ((rd l1 (j : Int)).toNat * 2)).block, (ads.add ((rd l1 (j : Int)).toNat * 2)).off + 1, none⟩ = some (.int .i64 (rd_T51 l0 (rd l1 (j : Int))).f1))) (ds := []) #[false, false, false, false, false, false, false, false, false, false, false, false, false, false] hmx (by kernel_rfl) (fun ⟨_, _, h⟩ => h) rfl rfl ⟨hco, hA, hcs, hs1⟩ (fun hHeld => ?_); refine with_tabW isStack.tab7 isStack.bits7 (fun HT_ HW_ => ?_)
            refine take_ (i := 0) (N := some 18) (v := ?_) (a' := ?_) #[true, false, false, false, false, false, false, false, false, false, false, false, false, false] rfl rfl (take_ofW HT_.out HW_.out (by kernel_rfl)) (fun _ _ _ h => h) (Or.inl ⟨by rfl, ?_⟩) hHeld ?_ ?_
            rotate_left
            · rintro w' ⟨s0, s1, s2, s3⟩
              go_simp
              with_reducible rfl
            rotate_left
            · simp only [Act.put, List.setIfInBounds_toArray, List.set_cons_zero, List.set_cons_succ, i64_w, i32_w]
              rfl
            refine pure_ (i := 1) (N := some 19) (v := ?_) (a' := ?_) #[true, true, false, false, false, false, false, false, false, false, false, false, false, false] rfl rfl (any_of HT_.out (by kernel_rfl)) (fun _ _ _ h => h) (Or.inl ⟨by rfl, ?_⟩) ?_ ?_
            rotate_left
            · intro w'
              go_simp
              with_reducible rfl
            rotate_left
            · simp only [Act.put, List.setIfInBounds_toArray, List.set_cons_zero, List.set_cons_succ, i64_w, i32_w]
              rfl
            refine pure_ (i := 2) (N := some 20) (v := ?_) (a' := ?_) #[true, true, true, false, false, false, false, false, false, false, false, false, false, false] rfl rfl (any_of HT_.out (by kernel_rfl)) (fun _ _ _ h => h) (Or.inl ⟨by rfl, ?_⟩) ?_ ?_
            rotate_left
            · intro w'
              go_simp
              with_reducible rfl
            rotate_left
            · simp only [Act.put, List.setIfInBounds_toArray, List.set_cons_zero, List.set_cons_succ, i64_w, i32_w]
              rfl
            refine pure_ (i := 3) (N := some 21) (v := ?_) (a' := ?_) #[true, true, true, true, false, false, false, false, false, false, false, false, false, false] rfl rfl (any_of HT_.out (by kernel_rfl)) (fun _ _ _ h => h) (Or.inl ⟨by rfl, ?_⟩) ?_ ?_
            rotate_left
            · intro w'
              go_simp
              with_reducible rfl
            rotate_left
            · simp only [Act.put, List.setIfInBounds_toArray, List.set_cons_zero, List.set_cons_succ, i64_w, i32_w]
              rfl
            refine one_ (i := 4) (N := some 22) #[true, true, true, true, true, false, false, false, false, false, false, false, false, false] rfl rfl (one_of HT_.out (by kernel_rfl)) (by decide) (fun K hK => ?_)
            refine goes_ Try.func83 (by kernel_rfl) rfl #[.slice A1 j c1, .int .i64 (rd l1 (j : Int))] (by rfl) rfl rfl (by (try simp only [List.map_toArray, List.map_cons, List.map_nil]); first | done | rfl) ?_
            refine (HCON.out _ (by repeat (first | exact Below.refl _ _ | apply pw_below_drewN | apply below_drew1))).mono ?_
            rintro e w' ⟨rfl, ⟨nd, rfl⟩⟩
            refine ⟨_, rfl, ?_⟩
            refine hK.out _ _ hHeld (fun _ => ?_)
            clear hK K
            refine norm_ (a' := ?_) ?_ ?_
            rotate_left
            · show Act.put _ (some 22) _ = _
              simp only [Act.put, List.setIfInBounds_toArray, List.set_cons_zero, List.set_cons_succ, i64_w, i32_w]
              rfl
            refine pure_ (i := 5) (N := some 23) (v := ?_) (a' := ?_) #[true, true, true, true, true, true, false, false, false, false, false, false, false, false] rfl rfl (any_of HT_.out (by kernel_rfl)) (fun _ _ _ h => h) (Or.inl ⟨by rfl, ?_⟩) ?_ ?_
            rotate_left
            · intro w'
              go_simp
              with_reducible rfl
            rotate_left
            · simp only [Act.put, List.setIfInBounds_toArray, List.set_cons_zero, List.set_cons_succ, i64_w, i32_w]
              rfl
            refine take_ (i := 6) (N := some 24) (v := ?_) (a' := ?_) #[true, true, true, true, true, true, true, false, false, false, false, false, false, false] rfl rfl (take_ofW HT_.out HW_.out (by kernel_rfl)) (fun _ _ _ h => h) (Or.inl ⟨by rfl, ?_⟩) hHeld ?_ ?_
            rotate_left
            · rintro w' ⟨s0, s1, s2, s3⟩
              go_simp
              with_reducible rfl
            rotate_left
            · simp only [Act.put, List.setIfInBounds_toArray, List.set_cons_zero, List.set_cons_succ, i64_w, i32_w]
              rfl
            refine take_ (i := 7) (N := some 25) (v := ?_) (a' := ?_) #[true, true, true, true, true, true, true, true, false, false, false, false, false, false] rfl rfl (take_ofW HT_.out HW_.out (by kernel_rfl)) (fun _ _ _ h => h) (Or.inl ⟨by rfl, ?_⟩) hHeld ?_ ?_
            rotate_left
            · rintro w' ⟨s0, s1, s2, s3⟩
              go_simp
              with_reducible rfl
            rotate_left
            · simp only [Act.put, List.setIfInBounds_toArray, List.set_cons_zero, List.set_cons_succ, i64_w, i32_w]
              rfl
            refine pure_ (i := 8) (N := some 26) (v := ?_) (a' := ?_) #[true, true, true, true, true, true, true, true, true, false, false, false, false, false] rfl rfl (any_of HT_.out (by kernel_rfl)) (fun _ _ _ h => h) (Or.inl ⟨by rfl, ?_⟩) ?_ ?_
            rotate_left
            · intro w'
              go_simp
              with_reducible rfl
            rotate_left
            · simp only [Act.put, List.setIfInBounds_toArray, List.set_cons_zero, List.set_cons_succ, i64_w, i32_w]
              rfl
            refine pure_ (i := 9) (N := some 27) (v := ?_) (a' := ?_) #[true, true, true, true, true, true, true, true, true, true, false, false, false, false] rfl rfl (any_of HT_.out (by kernel_rfl)) (fun _ _ _ h => h) (Or.inl ⟨by rfl, ?_⟩) ?_ ?_
            rotate_left
            · intro w'
              go_simp
              with_reducible rfl
            rotate_left
            · simp only [Act.put, List.setIfInBounds_toArray, List.set_cons_zero, List.set_cons_succ, i64_w, i32_w]
              rfl
            refine pure_ (i := 10) (N := some 28) (v := ?_) (a' := ?_) #[true, true, true, true, true, true, true, true, true, true, true, false, false, false] rfl rfl (any_of HT_.out (by kernel_rfl)) (fun _ _ _ h => h) (Or.inl ⟨by rfl, ?_⟩) ?_ ?_
            rotate_left
            · intro w'
              go_simp
              with_reducible rfl
            rotate_left
            · simp only [Act.put, List.setIfInBounds_toArray, List.set_cons_zero, List.set_cons_succ, i64_w, i32_w]
              rfl
            refine take_ (i := 11) (N := some 29) (v := ?_) (a' := ?_) #[true, true, true, true, true, true, true, true, true, true, true, true, false, false] rfl rfl (take_ofW HT_.out HW_.out (by kernel_rfl)) (fun _ _ _ h => h) (Or.inl ⟨by rfl, ?_⟩) hHeld ?_ ?_
            rotate_left
            · rintro w' ⟨s0, s1, s2, s3⟩
              go_simp
              with_reducible rfl
            rotate_left
            · simp only [Act.put, List.setIfInBounds_toArray, List.set_cons_zero, List.set_cons_succ, i64_w, i32_w]
              rfl
            refine pure_ (i := 12) (N := some 30) (v := ?_) (a' := ?_) #[true, true, true, true, true, true, true, true, true, true, true, true, true, false] rfl rfl (any_of HT_.out (by kernel_rfl)) (fun _ _ _ h => h) (Or.inl ⟨by rfl, ?_⟩) ?_ ?_
            rotate_left
            · intro w'
              go_simp
              with_reducible rfl
            rotate_left
            · simp only [Act.put, List.setIfInBounds_toArray, List.set_cons_zero, List.set_cons_succ, i64_w, i32_w]
              rfl
            refine pure_ (i := 13) (N := some 31) (v := ?_) (a' := ?_) #[true, true, true, true, true, true, true, true, true, true, true, true, true, true] rfl rfl (any_of HT_.out (by kernel_rfl)) (fun _ _ _ h => h) (Or.inl ⟨by rfl, ?_⟩) ?_ ?_
            rotate_left
            · intro w'
              go_simp
              with_reducible rfl
            rotate_left
            · simp only [Act.put, List.setIfInBounds_toArray, List.set_cons_zero, List.set_cons_succ, i64_w, i32_w]
              rfl
            refine done_ (done_of HT_.out (by kernel_rfl)) ?_
            gi_wp2
            exact ⟨st_keeps _ _ _ _ _, rfl, HBAD2.out, HS.out.stop _, a, st_far HA.out (by have := HBA.out; simp only []; omega) _ _⟩
          · have cgb : decide ((rd_T51 l0 (rd l1 (j : Int))).f1 < a) = false := decide_eq_false cg
            have HBAD2 := Aside0.mk (show stRun l0 l1 ((pre ++ [(⟨j, hj⟩ : { j : Nat // j < l1.length })]).map Subtype.val) = some (wrap64 (a + (rd_T51 l0 (rd l1 (j : Int))).f0)) by rw [HBAD.out, decide_eq_false cg]; rfl)
            clear cg
            gi_wp2
            refine startR_ (n := 14) (S := (fun w' => w'.cell? ⟨w.heap.size + 1, 0, none⟩ = some (.slice A1 l1.length c1) ∧ w'.cell? ⟨bA, 0, none⟩ = some (.int .i64 a) ∧ w'.cell? ⟨w.heap.size, 0, none⟩ = some (.slice (some ads) l0.length c0) ∧ w'.cell? ⟨(ads.add ((rd l1 (j : Int)).toNat * 2)).block, (ads.add ((rd l1 (j : Int)).toNat * 2)).off + 1, none⟩ = some (.int .i64 (rd_T51 l0 (rd l1 (j : Int))).f1))) (ds := []) #[false, false, false, false, false, false, false, false, false, false, false, false, false, false] hmx (by kernel_rfl) (fun ⟨_, _, h⟩ => h) rfl rfl ⟨hco, hA, hcs, hs1⟩ (fun hHeld => ?_); refine with_tabW isStack.tab7 isStack.bits7 (fun HT_ HW_ => ?_)
            refine take_ (i := 0) (N := some 18) (v := ?_) (a' := ?_) #[true, false, false, false, false, false, false, false, false, false, false, false, false, false] rfl rfl (take_ofW HT_.out HW_.out (by kernel_rfl)) (fun _ _ _ h => h) (Or.inl ⟨by rfl, ?_⟩) hHeld ?_ ?_
            rotate_left
            · rintro w' ⟨s0, s1, s2, s3⟩
              go_simp
              with_reducible rfl
            rotate_left
            · simp only [Act.put, List.setIfInBounds_toArray, List.set_cons_zero, List.set_cons_succ, i64_w, i32_w]
              rfl
            refine pure_ (i := 1) (N := some 19) (v := ?_) (a' := ?_) #[true, true, false, false, false, false, false, false, false, false, false, false, false, false] rfl rfl (any_of HT_.out (by kernel_rfl)) (fun _ _ _ h => h) (Or.inl ⟨by rfl, ?_⟩) ?_ ?_
            rotate_left
            · intro w'
              go_simp
              with_reducible rfl
            rotate_left
            · simp only [Act.put, List.setIfInBounds_toArray, List.set_cons_zero, List.set_cons_succ, i64_w, i32_w]
              rfl
            refine pure_ (i := 2) (N := some 20) (v := ?_) (a' := ?_) #[true, true, true, false, false, false, false, false, false, false, false, false, false, false] rfl rfl (any_of HT_.out (by kernel_rfl)) (fun _ _ _ h => h) (Or.inl ⟨by rfl, ?_⟩) ?_ ?_
            rotate_left
            · intro w'
              go_simp
              with_reducible rfl
            rotate_left
            · simp only [Act.put, List.setIfInBounds_toArray, List.set_cons_zero, List.set_cons_succ, i64_w, i32_w]
              rfl
            refine pure_ (i := 3) (N := some 21) (v := ?_) (a' := ?_) #[true, true, true, true, false, false, false, false, false, false, false, false, false, false] rfl rfl (any_of HT_.out (by kernel_rfl)) (fun _ _ _ h => h) (Or.inl ⟨by rfl, ?_⟩) ?_ ?_
            rotate_left
            · intro w'
              go_simp
              with_reducible rfl
            rotate_left
            · simp only [Act.put, List.setIfInBounds_toArray, List.set_cons_zero, List.set_cons_succ, i64_w, i32_w]
              rfl
            refine one_ (i := 4) (N := some 22) #[true, true, true, true, true, false, false, false, false, false, false, false, false, false] rfl rfl (one_of HT_.out (by kernel_rfl)) (by decide) (fun K hK => ?_)
            refine goes_ Try.func83 (by kernel_rfl) rfl #[.slice A1 j c1, .int .i64 (rd l1 (j : Int))] (by rfl) rfl rfl (by (try simp only [List.map_toArray, List.map_cons, List.map_nil]); first | done | rfl) ?_
            refine (HCON.out _ (by repeat (first | exact Below.refl _ _ | apply pw_below_drewN | apply below_drew1))).mono ?_
            rintro e w' ⟨rfl, ⟨nd, rfl⟩⟩
            refine ⟨_, rfl, ?_⟩
            refine hK.out _ _ hHeld (fun _ => ?_)
            clear hK K
            refine norm_ (a' := ?_) ?_ ?_
            rotate_left
            · show Act.put _ (some 22) _ = _
              simp only [Act.put, List.setIfInBounds_toArray, List.set_cons_zero, List.set_cons_succ, i64_w, i32_w]
              rfl
            refine pure_ (i := 5) (N := some 23) (v := ?_) (a' := ?_) #[true, true, true, true, true, true, false, false, false, false, false, false, false, false] rfl rfl (any_of HT_.out (by kernel_rfl)) (fun _ _ _ h => h) (Or.inl ⟨by rfl, ?_⟩) ?_ ?_
            rotate_left
            · intro w'
              go_simp
              with_reducible rfl
            rotate_left
            · simp only [Act.put, List.setIfInBounds_toArray, List.set_cons_zero, List.set_cons_succ, i64_w, i32_w]
              rfl
            refine take_ (i := 6) (N := some 24) (v := ?_) (a' := ?_) #[true, true, true, true, true, true, true, false, false, false, false, false, false, false] rfl rfl (take_ofW HT_.out HW_.out (by kernel_rfl)) (fun _ _ _ h => h) (Or.inl ⟨by rfl, ?_⟩) hHeld ?_ ?_
            rotate_left
            · rintro w' ⟨s0, s1, s2, s3⟩
              go_simp
              with_reducible rfl
            rotate_left
            · simp only [Act.put, List.setIfInBounds_toArray, List.set_cons_zero, List.set_cons_succ, i64_w, i32_w]
              rfl
            refine take_ (i := 7) (N := some 25) (v := ?_) (a' := ?_) #[true, true, true, true, true, true, true, true, false, false, false, false, false, false] rfl rfl (take_ofW HT_.out HW_.out (by kernel_rfl)) (fun _ _ _ h => h) (Or.inl ⟨by rfl, ?_⟩) hHeld ?_ ?_
            rotate_left
            · rintro w' ⟨s0, s1, s2, s3⟩
              go_simp
              with_reducible rfl
            rotate_left
            · simp only [Act.put, List.setIfInBounds_toArray, List.set_cons_zero, List.set_cons_succ, i64_w, i32_w]
              rfl
            refine pure_ (i := 8) (N := some 26) (v := ?_) (a' := ?_) #[true, true, true, true, true, true, true, true, true, false, false, false, false, false] rfl rfl (any_of HT_.out (by kernel_rfl)) (fun _ _ _ h => h) (Or.inl ⟨by rfl, ?_⟩) ?_ ?_
            rotate_left
            · intro w'
              go_simp
              with_reducible rfl
            rotate_left
            · simp only [Act.put, List.setIfInBounds_toArray, List.set_cons_zero, List.set_cons_succ, i64_w, i32_w]
              rfl
            refine pure_ (i := 9) (N := some 27) (v := ?_) (a' := ?_) #[true, true, true, true, true, true, true, true, true, true, false, false, false, false] rfl rfl (any_of HT_.out (by kernel_rfl)) (fun _ _ _ h => h) (Or.inl ⟨by rfl, ?_⟩) ?_ ?_
            rotate_left
            · intro w'
              go_simp
              with_reducible rfl
            rotate_left
            · simp only [Act.put, List.setIfInBounds_toArray, List.set_cons_zero, List.set_cons_succ, i64_w, i32_w]
              rfl
            refine pure_ (i := 10) (N := some 28) (v := ?_) (a' := ?_) #[true, true, true, true, true, true, true, true, true, true, true, false, false, false] rfl rfl (any_of HT_.out (by kernel_rfl)) (fun _ _ _ h => h) (Or.inl ⟨by rfl, ?_⟩) ?_ ?_
            rotate_left
            · intro w'
              go_simp
              with_reducible rfl
            rotate_left
            · simp only [Act.put, List.setIfInBounds_toArray, List.set_cons_zero, List.set_cons_succ, i64_w, i32_w]
              rfl
            refine take_ (i := 11) (N := some 29) (v := ?_) (a' := ?_) #[true, true, true, true, true, true, true, true, true, true, true, true, false, false] rfl rfl (take_ofW HT_.out HW_.out (by kernel_rfl)) (fun _ _ _ h => h) (Or.inl ⟨by rfl, ?_⟩) hHeld ?_ ?_
            rotate_left
            · rintro w' ⟨s0, s1, s2, s3⟩
              go_simp
              with_reducible rfl
            rotate_left
            · simp only [Act.put, List.setIfInBounds_toArray, List.set_cons_zero, List.set_cons_succ, i64_w, i32_w]
              rfl
            refine pure_ (i := 12) (N := some 30) (v := ?_) (a' := ?_) #[true, true, true, true, true, true, true, true, true, true, true, true, true, false] rfl rfl (any_of HT_.out (by kernel_rfl)) (fun _ _ _ h => h) (Or.inl ⟨by rfl, ?_⟩) ?_ ?_
            rotate_left
            · intro w'
              go_simp
              with_reducible rfl
            rotate_left
            · simp only [Act.put, List.setIfInBounds_toArray, List.set_cons_zero, List.set_cons_succ, i64_w, i32_w]
              rfl
            refine pure_ (i := 13) (N := some 31) (v := ?_) (a' := ?_) #[true, true, true, true, true, true, true, true, true, true, true, true, true, true] rfl rfl (any_of HT_.out (by kernel_rfl)) (fun _ _ _ h => h) (Or.inl ⟨by rfl, ?_⟩) ?_ ?_
            rotate_left
            · intro w'
              go_simp
              with_reducible rfl
            rotate_left
            · simp only [Act.put, List.setIfInBounds_toArray, List.set_cons_zero, List.set_cons_succ, i64_w, i32_w]
              rfl
            refine done_ (done_of HT_.out (by kernel_rfl)) ?_
            gi_wp2
            refine startR_ (n := 8) (S := (fun w' => w'.cell? ⟨bA, 0, none⟩ = some (.int .i64 a) ∧ w'.cell? ⟨w.heap.size, 0, none⟩ = some (.slice (some ads) l0.length c0) ∧ w'.cell? (ads.add ((rd l1 (j : Int)).toNat * 2)) = some (.int .i64 (rd_T51 l0 (rd l1 (j : Int))).f0))) (ds := [7]) #[false, false, false, false, false, false, false, false] hmx (by kernel_rfl) (fun ⟨_, _, h⟩ => h) rfl rfl ⟨hA, hcs, hs0⟩ (fun hHeld => ?_); refine with_tabW isStack.tab9 isStack.bits9 (fun HT_ HW_ => ?_)
            refine take_ (i := 0) (N := some 32) (v := ?_) (a' := ?_) #[true, false, false, false, false, false, false, false] rfl rfl (take_ofW HT_.out HW_.out (by kernel_rfl)) (fun _ _ _ h => h) (Or.inl ⟨by rfl, ?_⟩) hHeld ?_ ?_
            rotate_left
            · rintro w' ⟨s0, s1, s2⟩
              go_simp
              with_reducible rfl
            rotate_left
            · simp only [Act.put, List.setIfInBounds_toArray, List.set_cons_zero, List.set_cons_succ, i64_w, i32_w]
              rfl
            refine take_ (i := 1) (N := some 33) (v := ?_) (a' := ?_) #[true, true, false, false, false, false, false, false] rfl rfl (take_ofW HT_.out HW_.out (by kernel_rfl)) (fun _ _ _ h => h) (Or.inl ⟨by rfl, ?_⟩) hHeld ?_ ?_
            rotate_left
            · rintro w' ⟨s0, s1, s2⟩
              go_simp
              with_reducible rfl
            rotate_left
            · simp only [Act.put, List.setIfInBounds_toArray, List.set_cons_zero, List.set_cons_succ, i64_w, i32_w]
              rfl
            refine pure_ (i := 2) (N := some 34) (v := ?_) (a' := ?_) #[true, true, true, false, false, false, false, false] rfl rfl (any_of HT_.out (by kernel_rfl)) (fun _ _ _ h => h) (Or.inl ⟨by rfl, ?_⟩) ?_ ?_
            rotate_left
            · intro w'
              go_simp
              with_reducible rfl
            rotate_left
            · simp only [Act.put, List.setIfInBounds_toArray, List.set_cons_zero, List.set_cons_succ, i64_w, i32_w]
              rfl
            refine pure_ (i := 3) (N := some 35) (v := ?_) (a' := ?_) #[true, true, true, true, false, false, false, false] rfl rfl (any_of HT_.out (by kernel_rfl)) (fun _ _ _ h => h) (Or.inl ⟨by rfl, ?_⟩) ?_ ?_
            rotate_left
            · intro w'
              go_simp
              with_reducible rfl
            rotate_left
            · simp only [Act.put, List.setIfInBounds_toArray, List.set_cons_zero, List.set_cons_succ, i64_w, i32_w]
              rfl
            refine pure_ (i := 4) (N := some 36) (v := ?_) (a' := ?_) #[true, true, true, true, true, false, false, false] rfl rfl (any_of HT_.out (by kernel_rfl)) (fun _ _ _ h => h) (Or.inl ⟨by rfl, ?_⟩) ?_ ?_
            rotate_left
            · intro w'
              go_simp
              with_reducible rfl
            rotate_left
            · simp only [Act.put, List.setIfInBounds_toArray, List.set_cons_zero, List.set_cons_succ, i64_w, i32_w]
              rfl
            refine take_ (i := 5) (N := some 37) (v := ?_) (a' := ?_) #[true, true, true, true, true, true, false, false] rfl rfl (take_ofW HT_.out HW_.out (by kernel_rfl)) (fun _ _ _ h => h) (Or.inl ⟨by rfl, ?_⟩) hHeld ?_ ?_
            rotate_left
            · rintro w' ⟨s0, s1, s2⟩
              go_simp
              with_reducible rfl
            rotate_left
            · simp only [Act.put, List.setIfInBounds_toArray, List.set_cons_zero, List.set_cons_succ, i64_w, i32_w]
              rfl
            refine pure_ (i := 6) (N := some 38) (v := ?_) (a' := ?_) #[true, true, true, true, true, true, true, false] rfl rfl (any_of HT_.out (by kernel_rfl)) (fun _ _ _ h => h) (Or.inl ⟨by rfl, ?_⟩) ?_ ?_
            rotate_left
            · intro w'
              go_simp
              with_reducible rfl
            rotate_left
            · simp only [Act.put, List.setIfInBounds_toArray, List.set_cons_zero, List.set_cons_succ, i64_w, i32_w]
              rfl
            refine last_ (i := 7) (N := none) #[true, true, true, true, true, true, true, true] rfl rfl (one_of HT_.out (by kernel_rfl)) (by decide) (fun K hK => ?_)
            rw [if_pos (by rfl)]
            go_simp
            refine hK.out _ _ ?_
            clear hK K
            refine done_ (done_of HT_.out (by kernel_rfl)) ?_
            gi_wp2
            exact ⟨st_keeps _ _ _ _ _, (KpC.of_below (pw_below_drewN (Below.refl _ _) _)).trans (KpC.set _ _ _ (.inl rfl)), ⟨_, HBAD2.out, HS.out.step _ _, World.cell?_setCell_same' _ _ _ (show (W.cell? ⟨bA, 0, none⟩).isSome = true by rw [HA.out]; rfl)⟩⟩
      case done =>
        rintro D ys W hD hys ⟨a, hst, hS, hA⟩ hK
        rw [hys] at hst
        have er : r = true := by rw [← hfin, hst]; rfl
        have hcr := hS.cr
        have hfr := hS.fr
        gi_wp2
        have hK' := (KeepsOthers.setCell W ⟨w.heap.size + 1 + 1, 0, none⟩ (.bool true)).same D _ hK rfl
        refine ⟨by simp, .inl ⟨_, _, rfl, run_takeDeferred hK', ?_⟩⟩
        have hc5 := cell_kept (World.cell?_setCell_same' W ⟨w.heap.size + 1 + 1, 0, none⟩ (.bool true) (by rw [hcr]; rfl)) (grownBy_putObj' _ D (.deferred none)) (fun r e => by cases e; exact ⟨_, hK', rfl⟩)
        refine ⟨.bool true, ?_, by rw [er], (hS.below.setCell (p := ⟨w.heap.size + 1 + 1, 0, none⟩) (by simp only []; omega) _).trans (belowK_b (w := w) (Nat.le_refl _) _ D _ _ (by omega) hK' rfl rfl)⟩
        simp [results, Try.f65, go_sem, hc5]
      case stop =>
        rintro D c pre W hD ⟨k, hk, hpre⟩ ⟨rfl, hst, hS, a, hA⟩ hK
        rw [hpre] at hst
        have er : r = false := by rw [← hfin, stRun_stop l0 l1 l1.length k hk hst]; rfl
        gi_wp2
        refine ⟨by simp, .inl ⟨_, _, rfl, run_takeDeferred hK, ?_⟩⟩
        have hc5 := cell_kept hS.cr (grownBy_putObj' _ D (.deferred none)) (fun r e => by cases e; exact ⟨_, hK, rfl⟩)
        refine ⟨.bool false, ?_, by rw [er], hS.below.trans (belowK_b (w := w) (Nat.le_refl _) W D _ _ (by omega) hK rfl rfl)⟩
        simp [results, Try.f65, go_sem, hc5]
  · rw [if_neg hx] at h
    cases h

end Go.Proofs.Ytnppcpjkjepfeaa.K
