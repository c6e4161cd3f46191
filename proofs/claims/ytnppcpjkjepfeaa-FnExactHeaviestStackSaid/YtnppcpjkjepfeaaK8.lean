-- Laid by a program of this session (wip/pp.py) over the seat's translation, with its own texts for some functions.
import Derived.Test.YtnppcpjkjepfeaaK0
import Derived.Test.YtnppcpjkjepfeaaK5
import Derived.Test.YtnppcpjkjepfeaaK7
namespace Go.Proofs.Ytnppcpjkjepfeaa.K
open Go.RowKit Go.Proofs.YtnppcpjkjepfeaaW.PrintWords Go.Proofs.YtnppcpjkjepfeaaW.PrintLast Go.Proofs.YtnppcpjkjepfeaaW.PrintMore
attribute [local go_sem] max2_int min2_int max_two min_two max_three min_three max_four min_four   -- for this text's walks alone
set_option linter.unusedVariables false
set_option linter.unusedSimpArgs false

/-! ### slices_Clone_int_int: function 86 -/
def slices_Clone_int_int.f (l0 : List Int) : Option (List Int) := if l0.length ≤ 1048576 then some l0 else none
set_option maxHeartbeats 4000000 in
set_option maxRecDepth 100000 in
theorem slices_Clone_int_int.calls (A0 : Option Addr) (c0 : Nat) (l0 : List Int) (r : List Int) (w : World) (hr0 : Kd.C (Kd.int .i64) w A0 l0.length l0) (hc0 : l0.length ≤ c0) (h : slices_Clone_int_int.f l0 = some r) :
    Calls Try.prog 86 #[.slice A0 l0.length c0] w fun e w' => ∃ v0_ : Value, e = .returned (v0_) ∧ Kd.R (Kd.int .i64) 3 w' w.heap.size (fun _ => True) v0_ r ∧ Below w.heap.size w w' := by
  have hl : l0.length ≤ 1048576 := by
    unfold slices_Clone_int_int.f at h
    by_cases g : l0.length ≤ 1048576
    · exact g
    · rw [if_neg g] at h; cases h
  have e : l0 = r := by
    unfold slices_Clone_int_int.f at h
    rw [if_pos hl] at h
    exact Option.some.inj h
  subst e
  clear h
  have HR0 := Aside0.mk hr0
  have HB := Aside0.mk (Below.refl w.heap.size w)
  have HL := Aside0.mk hl
  cases A0 with
  | none =>
    have h0 : l0.length = 0 := by
      rcases Nat.eq_zero_or_pos l0.length with h0 | h0
      · exact h0
      · obtain ⟨ad, h, _⟩ := hr0.2.2 h0
        cases h
    obtain rfl : l0 = [] := List.eq_nil_of_length_eq_zero h0
    clear hr0 hc0 h0 hl
    have hnil := fun (W : World) => Lib.run_eql_slice_nil (P := Try.prog) W 22 3 none 0 c0 0 0 Try.underlying22
    go_enter Try.func86, Try.ntmps86
    go_wp2
    go_ret
    exact ⟨_, rfl, Kd.R_nil _ _ _ _ _, by repeat (first | exact HB.out | apply pw_below_drewN | apply below_drew1)⟩
  | some ad =>
    clear hr0 hc0 hl
    have hnil := fun (W : World) => Lib.run_eql_slice_nil (P := Try.prog) W 22 3 (some ad) l0.length c0 0 0 Try.underlying22
    go_enter Try.func86, Try.ntmps86
    go_wp2_with (first | ((with_reducible refine gate_dst (N := 5) rfl ?_); refine Kd.R_lit (Kd.int .i64) _ 3 ?hg (N := 5) ?hd (xs := ([] : List Int)) (inner := []) (ok := fun _ => True) (okp := fun _ => True) ?hr ?hp (fun _ hk => hk) trivial (Below.refl _ _) (Nat.le_refl _) (by simp) ?_; (case hd => rfl); (case hg => rfl); (case hr => first | (go_simp; done) | (go_simp; rfl)); (case hp => exact (Reps.none _ _)); intro v114 w3 ho4 hb hg_ hnew_; clear hg_ hnew_; have n0_ := Aside0.mk (Kd.R_lower ho4 (below_size (by repeat (first | (with_reducible first | exact HB.out | apply below_alloc | apply pw_below_drewN | apply below_drew1) | exact HB.out)))); have n1_ := Aside0.mk (below_step (by repeat (first | (with_reducible first | exact HB.out | apply below_alloc | apply pw_below_drewN | apply below_drew1) | exact HB.out)) hb); clear HB; have HO115 := n0_; have HB := n1_; clear n0_ n1_; clear hb ho4) | ((with_reducible refine gate_builtin (b := .append) (xs := #[.tmp 5, .tmp 6]) rfl ?_); at_builtin; refine Kd.R_append_rows (Kd.int .i64) (w0 := w) w.heap.size rfl (.tmp 5) (.tmp 6) 22 3 (.int .i64 0) 8 rfl Try.underlying22 info3 rfl (by decide) (by omega) v114 [] l0 _ _ _ (fun _ => True) (fun _ => False) rfl rfl ?aO ?aR (fun _ _ h => h) (fun _ h => h.elim) ?aF ?aB ?aS ?aL ?_; (case aR => repeat (first | exact (Kd.C_below HR0.out HB.out) | (with_reducible refine Kd.C_alloc ?_ _) | (with_reducible refine Kd.C_drewN ?_ _) | (with_reducible refine Kd.C_drew ?_))); (case aB => exact (by repeat (first | (with_reducible first | exact HB.out | apply below_alloc | apply pw_below_drewN | apply below_drew1) | exact HB.out))); (case aF => exact (fun _ _ => trivial)); (case aO => exact (by (with_reducible repeat (first | apply Kd.R_alloc | apply Kd.R_drewN | apply Kd.R_drew)); exact HO115.out)); (case aS => exact (below_size (by repeat (first | (with_reducible first | exact HB.out | apply below_alloc | apply pw_below_drewN | apply below_drew1) | exact HB.out)))); (case aL => have := HL.out; simp; omega); intro v117 w5 ho hb hg hat; rw [List.nil_append] at ho; have n0_ := Aside0.mk (hb); have n1_ := Aside0.mk (ho); clear HB; clear HO115; have HB := n0_; have HO118 := n1_; clear n0_ n1_; clear ho hb hg hat))
    go_ret
    exact ⟨_, rfl, HO118.out, HB.out⟩

/-! ### impl_stacks: function 67 -/
/-- All stacks that go on from one upwards, in order (d: how many slabs are left at most). -/
def stkAll (ok : List Int → Bool) (n : Nat) : Nat → List Int → List (List Int)
  | 0, o => [o]
  | d + 1, o => o :: (List.range n).flatMap fun (k : Nat) => if ok (o ++ [(k : Int)]) then stkAll ok n d (o ++ [(k : Int)]) else []
theorem nodup_length (n : Nat) : ∀ (o : List Int), o.Nodup → (∀ x ∈ o, 0 ≤ x ∧ x < (n : Int)) → o.length ≤ n := by
  induction n with
  | zero =>
    intro o _ h
    cases o with
    | nil => simp
    | cons x r => have := h x (by simp); omega
  | succ n ih =>
    intro o hn h
    by_cases hm : (n : Int) ∈ o
    · have h1 := ih (o.erase (n : Int)) (hn.erase _) (fun x hx => by
        have h2 := (List.Nodup.mem_erase_iff hn).mp hx
        have h3 := h x h2.2
        have h4 : x ≠ (n : Int) := h2.1
        omega)
      rw [List.length_erase_of_mem hm] at h1
      omega
    · have h1 := ih o hn (fun x hx => by
        have h3 := h x hx
        have h4 : x ≠ (n : Int) := fun e => hm (e ▸ hx)
        omega)
      omega
/-- What isStack says of an order. -/
def stkOk (l0 : List S51) (o : List Int) : Bool := (o.all fun x => decide (0 ≤ x ∧ x ≤ (l0.length : Int) - 1)) && (stRun l0 o (bkTo o.length o.length)).isSome
theorem stkOk_is (l0 : List S51) (o : List Int) (h0 : 0 < l0.length) (h1 : l0.length ≤ 1048576) (h2 : o.length ≤ 1048576) : impl_isStack.f l0 o = some (stkOk l0 o) := by
  unfold impl_isStack.f impl_areWithin.f stkOk
  rw [if_pos ⟨h2, h1⟩, show wrap64 ((l0.length : Int) - 1) = (l0.length : Int) - 1 by unfold wrap64; omega, List.not_any_eq_all_not]
  simp only [Option.bind_some, Bool.not_not]
  cases (o.all fun x => decide (0 ≤ x ∧ x ≤ (l0.length : Int) - 1)) with
  | true => rw [if_pos rfl, Bool.true_and]
  | false => rw [if_neg (by simp), Bool.false_and]
theorem bkTo_mem (n : Nat) (k : Nat) : k ≤ n → ∀ j, j < n → n - k ≤ j → j ∈ bkTo n k := by
  induction k with
  | zero => intro _ j h1 h2; omega
  | succ k ih =>
    intro hk j h1 h2
    rw [bkTo, List.mem_append]
    by_cases e : j = n - (k + 1)
    · right; simp [e]
    · left; exact ih (by omega) j h1 (by omega)
theorem stRun_all (l0 : List S51) (o : List Int) (js : List Nat) : ∀ s, (js.foldl (stStep l0 o) (some s)).isSome = true → ∀ j ∈ js, (o.take j).contains (rd o (j : Int)) = false := by
  induction js with
  | nil => intro s _ j hj; cases hj
  | cons i js ih =>
    intro s h j hj
    simp only [List.foldl_cons, stStep, Option.bind_some] at h
    by_cases c : stBad l0 o i s = true
    · rw [if_pos c, stFold_none] at h; cases h
    · rw [if_neg c] at h
      rcases List.mem_cons.mp hj with rfl | hj
      · unfold stBad at c
        cases e : (o.take j).contains (rd o (j : Int)) with
        | false => rfl
        | true => rw [e] at c; exact absurd rfl c
      · exact ih _ h j hj
theorem stkOk_len (l0 : List S51) (o : List Int) (h : stkOk l0 o = true) : o.length ≤ l0.length := by
  unfold stkOk at h
  rw [Bool.and_eq_true, List.all_eq_true] at h
  refine nodup_length l0.length o ?_ (fun x hx => by have := h.1 x hx; rw [decide_eq_true_eq] at this; omega)
  rw [List.nodup_iff_pairwise_ne, List.pairwise_iff_getElem]
  intro i j hi hj hij e
  have h1 := stRun_all l0 o _ 0 h.2 j (bkTo_mem o.length o.length (Nat.le_refl _) j hj (by omega))
  have h2 : (o.take j).contains (rd o (j : Int)) = true := by
    rw [List.contains_iff_mem, show rd o (j : Int) = o[j] by simp [rd, List.getD_eq_getElem?_getD, List.getElem?_eq_getElem hj], ← e]
    exact List.mem_iff_getElem.mpr ⟨i, by rw [List.length_take]; omega, by rw [List.getElem_take]⟩
  rw [h1] at h2
  cases h2
/-- Nothing has turned but the box of the list and the block that the list lay in. -/
def KeptV (bo : Nat) (v : Value) (W W' : World) : Prop := W.heap.size ≤ W'.heap.size ∧ ∀ k, k < W.heap.size → k ≠ bo → some k ≠ v.ownBlock → W'.heap[k]? = W.heap[k]?
theorem KeptV.trans {bo : Nat} {v v1 : Value} {W W1 W2 : World} (h : KeptV bo v W W1) (h' : KeptV bo v1 W1 W2) (hv : v1.ownBlock = v.ownBlock ∨ ∃ b, v1.ownBlock = some b ∧ W.heap.size ≤ b) : KeptV bo v W W2 :=
  ⟨Nat.le_trans h.1 h'.1, fun k h1 h2 h3 => (h'.2 k (Nat.lt_of_lt_of_le h1 h.1) h2 (by
    rcases hv with hv | ⟨b, hb, hle⟩
    · rw [hv]; exact h3
    · rw [hb]; intro e; injection e with e; omega)).trans (h.2 k h1 h2 h3)⟩
theorem KeptV.below {bo : Nat} {v : Value} {W W1 : World} (h : Below W.heap.size W W1) : KeptV bo v W W1 := ⟨h.size, fun k h1 _ _ => h.block k h1⟩
theorem KeptV.cell {bo : Nat} {v : Value} {W W' : World} (h : KeptV bo v W W') {b : Nat} {u : Value} (hc : W.cell? ⟨b, 0, none⟩ = some u) (h1 : b ≠ bo) (h2 : some b ≠ v.ownBlock) : W'.cell? ⟨b, 0, none⟩ = some u :=
  (World.cell?_of_block (h.2 b (World.block_lt_of_cell? W _ hc) h1 h2)).trans hc
structure StkInv (A0 : Option Addr) (n0 c0 bo bs bd : Nat) (w0 W : World) (v : Value) : Prop where
  below : Below w0.heap.size w0 W
  co : W.cell? ⟨bo, 0, none⟩ = some v
  fo : W.frozen? ⟨bo, 0, none⟩ = false
  cs : W.cell? ⟨bs, 0, none⟩ = some (.slice A0 n0 c0)
  cd : W.cell? ⟨bd, 0, none⟩ = some (.func (.func 85) #[] #[.pointer (some ⟨bo, 0, none⟩), .pointer (some ⟨bs, 0, none⟩), .pointer (some ⟨bd, 0, none⟩)])
  vs : some bs ≠ v.ownBlock ∧ some bd ≠ v.ownBlock ∧ some bo ≠ v.ownBlock
  vb : ∀ k, v.ownBlock = some k → w0.heap.size ≤ k
  hb : w0.heap.size ≤ bo
  ne : bs ≠ bo ∧ bd ≠ bo
theorem StkInv.kept {A0 : Option Addr} {n0 c0 bo bs bd : Nat} {w0 W W' : World} {v : Value} (h : StkInv A0 n0 c0 bo bs bd w0 W v) (hB : Below W.heap.size W W') : StkInv A0 n0 c0 bo bs bd w0 W' v :=
  ⟨h.below.trans (hB.mono h.below.size), (hB.cell (World.block_lt_of_cell? W _ h.co)).trans h.co, (World.frozen?_of_block (hB.block _ (World.block_lt_of_cell? W _ h.co))).trans h.fo, (hB.cell (World.block_lt_of_cell? W _ h.cs)).trans h.cs, (hB.cell (World.block_lt_of_cell? W _ h.cd)).trans h.cd, h.vs, h.vb, h.hb, h.ne⟩
/-- What stands behind a call of the closure. -/
def StkPost (A0 : Option Addr) (n0 c0 bo bs bd : Nat) (w0 W : World) (v : Value) (out : List (List Int)) (W' : World) : Prop :=
  ∃ v', StkInv A0 n0 c0 bo bs bd w0 W' v' ∧ Kd.S (Kd.slice 3 (Kd.int .i64)) 22 W' w0.heap.size (fun k => k ≠ bo) v' out ∧ KeptV bo v W W' ∧ (v'.ownBlock = v.ownBlock ∨ ∃ b, v'.ownBlock = some b ∧ W.heap.size ≤ b)
/-- What the closure adds for place k. -/
def stkSub (ok : List Int → Bool) (n : Nat) : Nat → List Int → Nat → List (List Int)
  | 0, _, _ => []
  | d + 1, o, k => if ok (o ++ [(k : Int)]) then stkAll ok n d (o ++ [(k : Int)]) else []
theorem stkAll_eq (ok : List Int → Bool) (n d : Nat) (o : List Int) : stkAll ok n d o = o :: (List.range n).flatMap (stkSub ok n d o) := by
  cases d with
  | zero =>
    have : (List.range n).flatMap (stkSub ok n 0 o) = [] := by
      rw [List.flatMap_eq_nil_iff]; intro k _; rfl
    rw [this]; rfl
  | succ d => rfl
theorem KeptV.set {bo : Nat} {v : Value} (W : World) (u : Value) : KeptV bo v W (W.setCell ⟨bo, 0, none⟩ u) := ⟨by simp, fun k _ h2 _ => Below.heap_setCell W ⟨bo, 0, none⟩ u k h2⟩
theorem KeptV.grown {bo : Nat} {v : Value} {W W1 : World} (h : W.grownBy W1 v.ownBlock) : KeptV bo v W W1 := ⟨h.size, fun k h1 _ h3 => h.block k h1 h3⟩
theorem StkInv.grown {A0 : Option Addr} {n0 c0 bo bs bd : Nat} {w0 W w1 : World} {v v1 : Value} (h : StkInv A0 n0 c0 bo bs bd w0 W v) (hb1 : Below w0.heap.size w0 w1) (hg : W.grownBy w1 v.ownBlock) (hat : v1.ownBlock = v.ownBlock ∨ ∃ b, v1.ownBlock = some b ∧ W.heap.size ≤ b) :
    StkInv A0 n0 c0 bo bs bd w0 (w1.setCell ⟨bo, 0, none⟩ v1) v1 := by
  have hlo := World.block_lt_of_cell? W _ h.co
  have hls := World.block_lt_of_cell? W _ h.cs
  have hld := World.block_lt_of_cell? W _ h.cd
  simp only [] at hlo hls hld
  have eo := World.cell?_of_block (a := ⟨bo, 0, none⟩) (hg.block bo hlo h.vs.2.2)
  have ef := World.frozen?_of_block (a := ⟨bo, 0, none⟩) (hg.block bo hlo h.vs.2.2)
  have es := World.cell?_of_block (a := ⟨bs, 0, none⟩) (hg.block bs hls h.vs.1)
  have ed := World.cell?_of_block (a := ⟨bd, 0, none⟩) (hg.block bd hld h.vs.2.1)
  refine ⟨hb1.setCell h.hb _, World.cell?_setCell_same' _ _ _ (by rw [eo, h.co]; rfl), by rw [World.frozen?_setCell, ef]; exact h.fo, (World.cell?_of_block (Below.heap_setCell w1 ⟨bo, 0, none⟩ v1 _ h.ne.1)).trans (es.trans h.cs), (World.cell?_of_block (Below.heap_setCell w1 ⟨bo, 0, none⟩ v1 _ h.ne.2)).trans (ed.trans h.cd), ?_, ?_, h.hb, h.ne⟩
  · rcases hat with hat | ⟨b, hb, hle⟩
    · rw [hat]; exact h.vs
    · rw [hb]
      refine ⟨fun e => ?_, fun e => ?_, fun e => ?_⟩ <;> (injection e with e; omega)
  · intro k hk
    rcases hat with hat | ⟨b, hb, hle⟩
    · rw [hat] at hk; exact h.vb k hk
    · rw [hb] at hk; injection hk with hk; have := h.below.size; omega
set_option maxHeartbeats 4000000 in
set_option maxRecDepth 100000 in
theorem stk_add (l0 : List S51) (A0 : Option Addr) (c0 bo bs bd : Nat) (w0 : World) (hr0 : Kd.C k51 w0 A0 l0.length l0) (hc0 : l0.length ≤ c0) (hx0 : 0 < l0.length) (hx : l0.length ≤ 7) (d : Nat) :
    ∀ (o : List Int) (ov : Value) (W : World) (v : Value) (out : List (List Int)) (N : Nat), o.length + d = l0.length → N ≤ W.heap.size → out.length + (stkAll (stkOk l0) l0.length d o).length ≤ 1000000000 → StkInv A0 l0.length c0 bo bs bd w0 W v →
    Kd.S (Kd.slice 3 (Kd.int .i64)) 22 W w0.heap.size (fun k => k < N ∧ k ≠ bo) v out → Kd.R (Kd.int .i64) 3 W w0.heap.size (fun k => N ≤ k ∧ k ≠ bo) ov o →
    Calls Try.prog 85 #[ov, .pointer (some ⟨bo, 0, none⟩), .pointer (some ⟨bs, 0, none⟩), .pointer (some ⟨bd, 0, none⟩)] W
      fun e w' => e = .returned (.tuple #[]) ∧ StkPost A0 l0.length c0 bo bs bd w0 W v (out ++ stkAll (stkOk l0) l0.length d o) w' := by
  induction d using Nat.strongRecOn with
  | _ d ih =>
  intro o ov W v out N hd hN hlen hI hS hRo
  obtain ⟨Aov, cov, rfl⟩ := Kd.R_slice hRo
  obtain ⟨Av, cv, rfl⟩ := Kd.S_slice hS
  have hvN : ∀ k, N ≤ k → some k ≠ (Value.slice Av out.length cv).ownBlock := fun k hk e => by
    have := (Kd.S_R hS).1 k e.symm
    omega
  have hco := hI.co
  have hfo := hI.fo
  have hlo := World.block_lt_of_cell? W _ hco
  simp only [] at hlo
  have HI := Aside0.mk hI
  have HS := Aside0.mk hS
  have HRO := Aside0.mk hRo
  have HVN := Aside0.mk hvN
  have HF := Aside0.mk (show o.length + d = l0.length ∧ N ≤ W.heap.size ∧ out.length + (stkAll (stkOk l0) l0.length d o).length ≤ 1000000000 ∧ bo < W.heap.size from ⟨hd, hN, hlen, hlo⟩)
  obtain ⟨R, hR⟩ : ∃ R, R = out ++ stkAll (stkOk l0) l0.length d o := ⟨_, rfl⟩
  rw [← hR]
  rw [stkAll_eq] at hR
  have HR := Aside0.mk hR
  have HL1 := Aside0.mk (show (out.length + 1) * 24 ≤ 140737488355328 by rw [stkAll_eq] at hlen; simp only [List.length_cons] at hlen; omega)
  obtain ⟨y1, hy1⟩ : ∃ y1, y1 = out ++ [o] := ⟨_, rfl⟩
  have HY1 := Aside0.mk hy1
  clear hd hN hlen hI hS hRo hvN hlo hR hy1
  go_enter Try.func85, Try.ntmps85
  go_wp2_with ((with_reducible refine gate_builtin (b := .append) (xs := #[.tmp 7, .tmp 9]) rfl ?_); at_builtin; refine Kd.S_append (Kd.slice 3 (Kd.int .i64)) (w0 := w0) w0.heap.size rfl (.tmp 7) (.tmp 9) 71 22 (.slice none 0 0) 24 rfl Try.underlying71 info22 rfl (by decide) (by omega) (.slice Av out.length cv) out o [.slice Aov o.length cov] (fun k => k ≠ bo) (fun k => N ≤ k ∧ k ≠ bo) rfl rfl (Kd.M_row HRO.out) (fun k hk => ⟨hk.2, HVN.out k hk.1⟩) (fun k hk => by have := HF.out; omega) (Kd.S_mono HS.out (fun k hk => ⟨hk.2, fun h => by omega⟩)) HI.out.below HI.out.below.size HL1.out ?_; intro v1 w1 hs1 hb1 hg1 hat1; rw [← HY1.out] at hs1; have hco1 := (World.cell?_of_block (a := ⟨bo, 0, none⟩) (hg1.block bo HF.out.2.2.2 HI.out.vs.2.2)).trans HI.out.co; have hfo1 := (World.frozen?_of_block (a := ⟨bo, 0, none⟩) (hg1.block bo HF.out.2.2.2 HI.out.vs.2.2)).trans HI.out.fo; have hI1 := HI.out.grown hb1 hg1 hat1; have HS1 := Aside0.mk (Kd.S_far (p := ⟨bo, 0, none⟩) hs1 (fun k hk => hk) v1); have HK1 := Aside0.mk ((KeptV.grown (bo := bo) hg1).trans (KeptV.set w1 v1) hat1); have HAT1 := Aside0.mk hat1; obtain ⟨Av1, cv1, ev1⟩ := Kd.S_slice hs1; subst ev1; have hcs1 := hI1.cs; have HI1 := Aside0.mk hI1; clear hs1 hb1 hg1 hat1 hI1 hco hfo)
  generalize w1.setCell ⟨bo, 0, none⟩ (.slice Av1 y1.length cv1) = w2 at HS1 HK1 hcs1 HI1 ⊢
  clear hco1 hfo1
  go_loopg [13] (l0.length + 1) (fun gg v13 wr => ∃ (i : Nat) (v' : Value) (out' : List (List Int)), v13 = .int .i64 (i : Int) ∧ Aside0 (i ≤ l0.length ∧ l0.length - i < gg) ∧ Aside0 (out' ++ ((List.range l0.length).drop i).flatMap (stkSub (stkOk l0) l0.length d o) = R) ∧ Aside0 (StkInv A0 l0.length c0 bo bs bd w0 wr v') ∧ Aside0 (Kd.S (Kd.slice 3 (Kd.int .i64)) 22 wr w0.heap.size (fun k => k ≠ bo) v' out') ∧ Aside0 (KeptV bo (.slice Av out.length cv) W wr ∧ (v'.ownBlock = (Value.slice Av out.length cv).ownBlock ∨ ∃ b, v'.ownBlock = some b ∧ W.heap.size ≤ b)))
  clear hcs1
  case atStart => exact ⟨0, _, y1, rfl, ⟨Nat.zero_le _, by omega⟩, ⟨by rw [HR.out, HY1.out]; simp⟩, HI1, HS1, ⟨HK1.out, HAT1.out⟩⟩
  case round =>
    clear HS1 HK1 HI1 HAT1
    obtain ⟨i, v', out', rfl, HN, HL, HI2, HS2, HK2⟩ := hrel
    cases gk with
    | zero => exact absurd HN.out (by omega)
    | succ gk =>
      by_cases hi : i < l0.length
      · have hb : decide ((i : Int) < (l0.length : Int)) = true := decide_eq_true (by omega)
        have hb2 : decide (i < l0.length) = true := decide_eq_true hi
        have hL := HL.out
        rw [List.drop_eq_getElem_cons (by simpa using hi), List.getElem_range, List.flatMap_cons, ← List.append_assoc] at hL
        have hcs2 := HI2.out.cs
        have hcd2 := HI2.out.cd
        have hro := Kd.R_step HRO.out (fun k hk hlt => HK2.out.1.2 k hlt hk.2 (HVN.out k hk.1))
        have hol : o.length ≤ 7 := by have := HF.out; omega
        have HCLONE := Aside0.mk (slices_Clone_int_int.calls Aov cov o o wr (Kd.R_reads' hro).2.2 (Kd.R_reads' hro).2.1 (by unfold slices_Clone_int_int.f; rw [if_pos (by omega)]))
        obtain ⟨nx, hnx⟩ : ∃ nx, nx = o ++ [(i : Int)] := ⟨_, rfl⟩
        have hnl : nx.length = o.length + 1 := by rw [hnx]; simp
        have his := stkOk_is l0 nx hx0 (by omega) (by omega)
        have HIS := Aside0.mk (fun (W2 : World) (hB : Below wr.heap.size wr W2) (A : Option Addr) (c : Nat) (hC : Kd.C (Kd.int .i64) W2 A nx.length nx) (hc : nx.length ≤ c) => impl_isStack.calls A0 c0 l0 A c nx (stkOk l0 nx) W2 (Kd.C_below hr0 (HI2.out.below.trans (hB.mono HI2.out.below.size))) hc0 hC hc his)
        have HNX := Aside0.mk hnx
        have HOL := Aside0.mk hol
        have HIL := Aside0.mk hi
        have HWI := Aside0.mk (show wrap64 ((i : Int) + 1) = ((i + 1 : Nat) : Int) by unfold wrap64; omega)
        by_cases ok : stkOk l0 nx = true
        · obtain ⟨q, rfl⟩ : ∃ q, d = q + 1 := ⟨d - 1, by have := stkOk_len l0 nx ok; have := HF.out; omega⟩
          have hsub : stkSub (stkOk l0) l0.length (q + 1) o i = stkAll (stkOk l0) l0.length q nx := by
            simp only [stkSub]; rw [← hnx, if_pos ok]
          rw [hsub] at hL
          have HL2 := Aside0.mk hL
          rw [ok] at HIS
          have HREC := Aside0.mk (fun (vv : Value) (W2 : World) (h1 : StkInv A0 l0.length c0 bo bs bd w0 W2 v') (h2 : Kd.S (Kd.slice 3 (Kd.int .i64)) 22 W2 w0.heap.size (fun k => k < wr.heap.size ∧ k ≠ bo) v' out') (h3 : Kd.R (Kd.int .i64) 3 W2 w0.heap.size (fun k => wr.heap.size ≤ k ∧ k ≠ bo) vv nx) (h4 : wr.heap.size ≤ W2.heap.size) =>
            ih q (by omega) nx vv W2 v' out' wr.heap.size (by have := HF.out; omega) h4 (by
              have h5 := congrArg List.length hL
              have h6 := congrArg List.length HR.out
              have h7 := HF.out.2.2.1
              rw [stkAll_eq] at h7
              simp only [List.length_append, List.length_cons] at h5 h6 h7 ⊢
              omega) h1 h2 h3)
          clear hL hro hol his hnx hnl hsub ih ok hi hr0 hc0
          go_wp2_with (first | (go_at_call 86; (with_reducible refine HCLONE.out.mono ?_); rintro e4 w4 ⟨v137, rfl, ho0, hb4⟩; have HO4 := Aside0.mk ho0; have HB4 := Aside0.mk hb4; clear ho0 hb4) | ((with_reducible refine gate_builtin (b := .append) (xs := #[.tmp 17, .tmp 19]) rfl ?_); at_builtin; refine Kd.R_append (Kd.int .i64) (w0 := wr) wr.heap.size rfl (.tmp 17) (.tmp 19) 22 3 (.int .i64 0) 8 rfl Try.underlying22 info3 rfl (by decide) (by omega) v137 o (i : Int) [.int .i64 (i : Int)] (fun _ => True) (fun _ => False) rfl rfl rfl (fun _ hk => hk.elim) (fun _ _ => trivial) HO4.out HB4.out HB4.out.size (by have := HOL.out; omega) ?_; intro v143 w5 ho hb hg hat; rw [← HNX.out] at ho; have HO5 := Aside0.mk ho; have HB5 := Aside0.mk hb; have hcs5 := (hb.cell (World.block_lt_of_cell? wr _ hcs2)).trans hcs2; obtain ⟨An, cn, en⟩ := Kd.R_slice ho; subst en; clear ho hb hg hat) | (go_at_call 65; (with_reducible refine (HIS.out _ HB5.out An cn (Kd.R_reads' HO5.out).2.2 (Kd.R_reads' HO5.out).2.1).mono ?_); rintro e6 w6 ⟨rfl, hb6⟩; have HB6 := Aside0.mk (HB5.out.trans (hb6.mono HB5.out.size)); have HO6 := Aside0.mk (Kd.R_below HO5.out hb6); have hcd6 := (HB6.out.cell (World.block_lt_of_cell? wr _ hcd2)).trans hcd2; clear hb6) | (go_at_call 85; (with_reducible refine (HREC.out _ _ (HI2.out.kept HB6.out) ?hS ?hR HB6.out.size).mono ?_); (case hS => exact Kd.S_below (Kd.S_mono (Kd.S_bound HS2.out) (fun k hk => ⟨hk.2.2.1, hk.1⟩)) HB6.out); (case hR => exact Kd.R_lower (Kd.R_mono (Kd.R_bound HO6.out) (fun k hk => ⟨hk.2.1, by have := World.block_lt_of_cell? wr _ HI2.out.co; have := hk.2.1; simp only [] at *; omega⟩)) HI2.out.below.size); rintro e8 w8 ⟨rfl, hp8⟩; obtain ⟨v8, hi8, hs8, hk8, hat8⟩ := hp8))
          go_roundg gk
          case measure => omega
          case rel => exact ⟨i + 1, v8, _, by rw [HWI.out], ⟨by have := HN.out; have := HIL.out; omega⟩, HL2, ⟨hi8⟩, ⟨hs8⟩, ⟨(HK2.out.1.trans ((KeptV.below HB6.out).trans hk8 (.inl rfl)) HK2.out.2), by
            rcases hat8 with h | ⟨b, h, hle⟩
            · rw [h]; exact HK2.out.2
            · exact .inr ⟨b, h, Nat.le_trans (Nat.le_trans HK2.out.1.1 HB6.out.size) hle⟩⟩⟩
        · have okf : stkOk l0 nx = false := by
            cases e : stkOk l0 nx with
            | true => exact absurd e ok
            | false => rfl
          have hsub : stkSub (stkOk l0) l0.length d o i = [] := by
            cases d with
            | zero => rfl
            | succ q => simp only [stkSub]; rw [← hnx, if_neg ok]
          rw [hsub, List.append_nil] at hL
          have HL2 := Aside0.mk hL
          rw [okf] at HIS
          clear hL hro hol his hnx hnl hsub ih ok okf hi hr0 hc0
          go_wp2_with (first | (go_at_call 86; (with_reducible refine HCLONE.out.mono ?_); rintro e4 w4 ⟨v137, rfl, ho0, hb4⟩; have HO4 := Aside0.mk ho0; have HB4 := Aside0.mk hb4; clear ho0 hb4) | ((with_reducible refine gate_builtin (b := .append) (xs := #[.tmp 17, .tmp 19]) rfl ?_); at_builtin; refine Kd.R_append (Kd.int .i64) (w0 := wr) wr.heap.size rfl (.tmp 17) (.tmp 19) 22 3 (.int .i64 0) 8 rfl Try.underlying22 info3 rfl (by decide) (by omega) v137 o (i : Int) [.int .i64 (i : Int)] (fun _ => True) (fun _ => False) rfl rfl rfl (fun _ hk => hk.elim) (fun _ _ => trivial) HO4.out HB4.out HB4.out.size (by have := HOL.out; omega) ?_; intro v143 w5 ho hb hg hat; rw [← HNX.out] at ho; have HO5 := Aside0.mk ho; have HB5 := Aside0.mk hb; have hcs5 := (hb.cell (World.block_lt_of_cell? wr _ hcs2)).trans hcs2; obtain ⟨An, cn, en⟩ := Kd.R_slice ho; subst en; clear ho hb hg hat) | (go_at_call 65; (with_reducible refine (HIS.out _ HB5.out An cn (Kd.R_reads' HO5.out).2.2 (Kd.R_reads' HO5.out).2.1).mono ?_); rintro e6 w6 ⟨rfl, hb6⟩; have HB6 := Aside0.mk (HB5.out.trans (hb6.mono HB5.out.size)); clear hb6))
          go_roundg gk
          case measure => omega
          case rel => exact ⟨i + 1, v', out', by rw [HWI.out], ⟨by have := HN.out; have := HIL.out; omega⟩, HL2, ⟨HI2.out.kept HB6.out⟩, ⟨Kd.S_below HS2.out HB6.out⟩, ⟨(HK2.out.1.trans (KeptV.below (v := v') HB6.out) HK2.out.2), HK2.out.2⟩⟩
      · have hb : decide ((i : Int) < (l0.length : Int)) = false := decide_eq_false (by omega)
        have hb2 : decide (i < l0.length) = false := decide_eq_false hi
        have HE := Aside0.mk (show out' = R by rw [← HL.out, List.drop_of_length_le (by simp; omega)]; simp)
        clear hi
        go_wp2
        go_end0
        exact ⟨rfl, ⟨v', HI2.out, by rw [← HE.out]; exact HS2.out, HK2.out.1, HK2.out.2⟩⟩
theorem run_store_func2 (P : Program) (w : World) (a : Addr) (m : Mode) (f : Fn) (r cs : Array Value) : (store a (.func f r cs) m).run P w = stored P w a (.func f r cs) m := run_store P w a _ m rfl
attribute [local go_sem] run_store_func2
theorem stk_start {A0 : Option Addr} {n0 c0 : Nat} {w W1 w3 : World} {v : Value} (h0 : W1.cell? ⟨w.heap.size, 0, none⟩ = some (.slice A0 n0 c0)) (h1 : W1.heap.size = w.heap.size + 1) (hb : Below w.heap.size w W1)
    (hs : Kd.S (Kd.slice 3 (Kd.int .i64)) 22 w3 W1.heap.size (fun _ => True) v []) (hb3 : Below W1.heap.size W1 w3) (hn : ∃ b, v.ownBlock = some b ∧ W1.heap.size ≤ b) :
    StkInv A0 n0 c0 w3.heap.size w.heap.size (w3.heap.size + 1) w ((w3.alloc (.cells #[v] 71)).alloc (.cells #[.func (.func 85) #[] #[.pointer (some ⟨w3.heap.size, 0, none⟩), .pointer (some ⟨w.heap.size, 0, none⟩), .pointer (some ⟨w3.heap.size + 1, 0, none⟩)]] 85)) v := by
  obtain ⟨b, hb1, hb2⟩ := hn
  have hlt := Kd.S_lt hs b hb1
  have hB : Below w3.heap.size w3 ((w3.alloc (.cells #[v] 71)).alloc (.cells #[.func (.func 85) #[] #[.pointer (some ⟨w3.heap.size, 0, none⟩), .pointer (some ⟨w.heap.size, 0, none⟩), .pointer (some ⟨w3.heap.size + 1, 0, none⟩)]] 85)) := ((Below.refl _ w3).alloc (Nat.le_refl _) _).alloc (by simp) _
  have e0 := (hb3.cell (World.block_lt_of_cell? W1 _ h0)).trans h0
  have sz := hb3.size
  refine ⟨(hb.trans (hb3.mono (by omega))).trans (hB.mono (by omega)), by go_simp, by go_simp, (hB.cell (World.block_lt_of_cell? w3 _ e0)).trans e0, by go_simp, ?_, ?_, by omega, by omega, by omega⟩
  · rw [hb1]
    refine ⟨fun e => ?_, fun e => ?_, fun e => ?_⟩ <;> (injection e with e; omega)
  · intro k hk
    rw [hb1] at hk
    injection hk with hk
    omega
theorem stk_startS {w W1 w3 : World} {v : Value} {o1 o2 : Obj} (h1 : W1.heap.size = w.heap.size + 1) (hs : Kd.S (Kd.slice 3 (Kd.int .i64)) 22 w3 W1.heap.size (fun _ => True) v []) :
    Kd.S (Kd.slice 3 (Kd.int .i64)) 22 ((w3.alloc o1).alloc o2) w.heap.size (fun k => k < ((w3.alloc o1).alloc o2).heap.size ∧ k ≠ w3.heap.size) v [] :=
  Kd.S_lower (Kd.S_alloc (Kd.S_alloc (Kd.S_mono (Kd.S_bound hs) (fun k hk => by have := hk.2.2.1; simp; omega)) _) _) (by omega)
def impl_stacks.f (l0 : List S51) : Option (List (List Int)) :=
  if 0 < l0.length ∧ l0.length ≤ 7 ∧ (stkAll (stkOk l0) l0.length l0.length []).length ≤ 1000000000 then some (stkAll (stkOk l0) l0.length l0.length []) else none
set_option maxHeartbeats 4000000 in
set_option maxRecDepth 100000 in
theorem impl_stacks.calls (A0 : Option Addr) (c0 : Nat) (l0 : List S51) (r : List (List Int)) (w : World) (hr0 : Kd.C k51 w A0 l0.length l0) (hc0 : l0.length ≤ c0) (h : impl_stacks.f l0 = some r) :
    Calls Try.prog 67 #[.slice A0 l0.length c0] w fun e w' => ∃ v0_ : Value, e = .returned (v0_) ∧ Kd.S (Kd.slice 3 (Kd.int .i64)) 22 w' w.heap.size (fun _ => True) v0_ r ∧ Below w.heap.size w w' := by
  unfold impl_stacks.f at h
  by_cases hx : 0 < l0.length ∧ l0.length ≤ 7 ∧ (stkAll (stkOk l0) l0.length l0.length []).length ≤ 1000000000
  · rw [if_pos hx] at h
    have e := Option.some.inj h
    subst e
    obtain ⟨hx0, hx1, hx2⟩ := hx
    have HADD := Aside0.mk (fun (bo bs bd : Nat) (W : World) (v : Value) (h1 : StkInv A0 l0.length c0 bo bs bd w W v) (h2 : Kd.S (Kd.slice 3 (Kd.int .i64)) 22 W w.heap.size (fun k => k < W.heap.size ∧ k ≠ bo) v []) =>
      stk_add l0 A0 c0 bo bs bd w hr0 hc0 hx0 hx1 l0.length [] (.slice none 0 0) W v [] W.heap.size (by simp) (Nat.le_refl _) (by simpa using hx2) h1 h2 (Kd.R_nil _ _ _ _ _))
    have HSZ := Aside0.mk hx0
    clear hx0 hx1 hx2 h hr0 hc0
    go_enter Try.func67, Try.ntmps67
    have HW1 := Aside0.mk (show (w.alloc (.cells #[.slice A0 l0.length c0] 29)).cell? ⟨w.heap.size, 0, none⟩ = some (.slice A0 l0.length c0) by go_simp)
    have HW1S := Aside0.mk (show (w.alloc (.cells #[.slice A0 l0.length c0] 29)).heap.size = w.heap.size + 1 by simp)
    have HW1B := Aside0.mk (show Below w.heap.size w (w.alloc (.cells #[.slice A0 l0.length c0] 29)) from (Below.refl _ _).alloc (Nat.le_refl _) _)
    go_wp2_with (first | ((with_reducible refine gate_dst (N := 5) rfl ?_); refine Kd.S_lit (Kd.slice 3 (Kd.int .i64)) _ 22 ?hg (N := 5) ?hd (xs := ([] : List (List Int))) (inner := []) (ok := fun _ => True) (okp := fun _ => True) ?hr ?hp (fun _ hk => hk) trivial (Below.refl _ _) (Nat.le_refl _) (by simp) ?_; (case hd => rfl); (case hg => rfl); (case hr => first | (go_simp; done) | (go_simp; rfl)); (case hp => exact (Reps.none _ _)); intro v5 w3 hs5 hb5 hg5 hnew5; obtain ⟨A5, c5, e5⟩ := Kd.S_slice hs5; subst e5; have HS5 := Aside0.mk hs5; have HB5 := Aside0.mk hb5; have HN5 := Aside0.mk hnew5; clear hs5 hb5 hg5 hnew5) | (go_at_call 85; (with_reducible refine (HADD.out w3.heap.size w.heap.size (w3.heap.size + 1) _ (.slice A5 0 c5) ?hI ?hS).mono ?_); (case hI => exact stk_start HW1.out HW1S.out HW1B.out HS5.out HB5.out HN5.out); (case hS => exact stk_startS HW1S.out HS5.out); rintro e8 w8 ⟨rfl, hp8⟩; obtain ⟨v8, hi8, hs8, hk8, hat8⟩ := hp8; have hco8 := hi8.co; obtain ⟨A8, c8, e8⟩ := Kd.S_slice hs8; subst e8; have HS8 := Aside0.mk hs8; have HI8 := Aside0.mk hi8; clear hi8 hs8 hk8 hat8))
    go_ret
    exact ⟨_, rfl, Kd.S_mono HS8.out (fun _ _ => trivial), HI8.out.below⟩
  · rw [if_neg hx] at h
    cases h

/-! ### impl_CountStacks: function 43 -/
def impl_CountStacks.f (l0 : List (S51)) : Option (Int × Bool) := (impl_AreSlabs.f l0).bind fun t166 => (if t166 = true then ((impl_stacks.f l0).bind fun t167 => (some ((t167.length : Int), true))) else (some (0, false)))
set_option maxHeartbeats 8000000 in
set_option maxRecDepth 100000 in
theorem impl_CountStacks.calls (A0 : Option Addr) (c0 : Nat) (l0 : List (S51)) (r1 : Int) (r2 : Bool) (w : World) (hr0 : Kd.C k51 w A0 l0.length l0) (hc0 : l0.length ≤ c0) (h : impl_CountStacks.f l0 = some (r1, r2)) :
    Calls Try.prog 43 #[.slice A0 l0.length c0] w fun e w' => e = .returned (.tuple #[.int .i64 r1, .bool r2]) ∧ Below w.heap.size w w' := by
  have HR0 := Aside0.mk hr0
  have HC0 := Aside0.mk hc0
  clear hr0 hc0
  have HB := Aside0.mk (Below.refl w.heap.size w)
  have H : ((impl_AreSlabs.f l0).bind fun t166 => (if t166 = true then ((impl_stacks.f l0).bind fun t167 => (some ((t167.length : Int), true))) else (some (0, false)))) = some (r1, r2) := h
  clear h
  replace H := Option.bind_eq_some_iff.mp H
  obtain ⟨t166, A20, H⟩ := H
  replace H : (if t166 = true then ((impl_stacks.f l0).bind fun t167 => (some ((t167.length : Int), true))) else (some (0, false))) = some (r1, r2) := H
  have A2 := Aside0.mk A20
  clear A20
  by_cases c3 : t166 = true
  · subst c3
    have H1 : ((impl_stacks.f l0).bind fun t167 => (some ((t167.length : Int), true))) = some (r1, r2) := by rw [if_pos rfl] at H; exact H
    clear H
    have H := H1
    clear H1
    replace H := Option.bind_eq_some_iff.mp H
    obtain ⟨t167, A40, H⟩ := H
    replace H : (some ((t167.length : Int), true)) = some (r1, r2) := H
    have A4 := Aside0.mk A40
    clear A40
    simp only [Option.some.injEq, Prod.mk.injEq] at H
    obtain ⟨rfl, rfl⟩ := H
    go_enter Try.func43, Try.ntmps43
    go_wp2_with (first | ((with_reducible refine gate_callee (f := 22) rfl ?_); refine goesL_ (some 5) rfl rfl Try.func22 (by kernel_rfl) rfl #[.slice A0 l0.length c0] rfl (by (try simp only [List.map_toArray, List.map_cons, List.map_nil]); first | done | rfl | (simp only [List.length_drop, List.length_take]; rfl)) ?_; (with_reducible refine (impl_AreSlabs.calls _ _ l0 true _ ?side1 ?side2 A2.out).mono ?_); (case side1 => repeat (first | exact HR0.out | (with_reducible refine Kd.C_alloc ?_ _) | (with_reducible refine Kd.C_drewN ?_ _) | (with_reducible refine Kd.C_drew ?_))); (case side2 => exact HC0.out); rintro e w5 ⟨rfl, hb⟩; refine ⟨_, rfl, ?_⟩; have n0_ := Aside0.mk (below_step (by repeat (first | (with_reducible first | exact HB.out | apply below_alloc | apply pw_below_drewN | apply below_drew1) | exact HB.out)) hb); clear HB; have HB := n0_; clear n0_; (try clear hb); (try clear hb2); (try clear hk); (try clear hi)) | ((with_reducible refine gate_callee (f := 67) rfl ?_); refine goesL_ (some 8) rfl rfl Try.func67 (by kernel_rfl) rfl #[.slice A0 l0.length c0] rfl (by (try simp only [List.map_toArray, List.map_cons, List.map_nil]); first | done | rfl | (simp only [List.length_drop, List.length_take]; rfl)) ?_; (with_reducible refine (impl_stacks.calls _ _ l0 t167 _ ?side1 ?side2 A4.out).mono ?_); (case side1 => repeat (first | exact (Kd.C_below HR0.out HB.out) | (with_reducible refine Kd.C_alloc ?_ _) | (with_reducible refine Kd.C_drewN ?_ _) | (with_reducible refine Kd.C_drew ?_))); (case side2 => exact HC0.out); rintro e w6 ⟨v168, rfl, ho0, hb⟩; refine ⟨_, rfl, ?_⟩; have n0_ := Aside0.mk (Kd.S_lower ho0 (below_size (by repeat (first | (with_reducible first | exact HB.out | apply below_alloc | apply pw_below_drewN | apply below_drew1) | exact HB.out)))); have n1_ := Aside0.mk (below_step (by repeat (first | (with_reducible first | exact HB.out | apply below_alloc | apply pw_below_drewN | apply below_drew1) | exact HB.out)) hb); clear HB; have HO169 := n0_; have HB := n1_; clear n0_ n1_; (try clear hb); (try clear hb2); (try clear hk); (try clear hi); (try clear ho0); obtain ⟨Ao7, co7, eo7⟩ := Kd.S_slice HO169.out; subst eo7))
    go_ret2
    exact ⟨by first | rfl | (simp [errW_none, errW_some] <;> rfl) | (simp [*, errW_none, errW_some] <;> rfl), by repeat (first | (with_reducible first | exact HB.out | apply below_alloc | apply pw_below_drewN | apply below_drew1) | exact HB.out)⟩
  · replace c3 := Bool.eq_false_iff.mpr c3
    subst c3
    have H1 : (some (0, false)) = some (r1, r2) := by rw [if_neg (show ¬ (false = true) by decide)] at H; exact H
    clear H
    have H := H1
    clear H1
    simp only [Option.some.injEq, Prod.mk.injEq] at H
    obtain ⟨rfl, rfl⟩ := H
    go_enter Try.func43, Try.ntmps43
    go_wp2_with (first | ((with_reducible refine gate_callee (f := 22) rfl ?_); refine goesL_ (some 5) rfl rfl Try.func22 (by kernel_rfl) rfl #[.slice A0 l0.length c0] rfl (by (try simp only [List.map_toArray, List.map_cons, List.map_nil]); first | done | rfl | (simp only [List.length_drop, List.length_take]; rfl)) ?_; (with_reducible refine (impl_AreSlabs.calls _ _ l0 false _ ?side1 ?side2 A2.out).mono ?_); (case side1 => repeat (first | exact HR0.out | (with_reducible refine Kd.C_alloc ?_ _) | (with_reducible refine Kd.C_drewN ?_ _) | (with_reducible refine Kd.C_drew ?_))); (case side2 => exact HC0.out); rintro e w8 ⟨rfl, hb⟩; refine ⟨_, rfl, ?_⟩; have n0_ := Aside0.mk (below_step (by repeat (first | (with_reducible first | exact HB.out | apply below_alloc | apply pw_below_drewN | apply below_drew1) | exact HB.out)) hb); clear HB; have HB := n0_; clear n0_; (try clear hb); (try clear hb2); (try clear hk); (try clear hi)))
    go_ret2
    exact ⟨by first | rfl | (simp [errW_none, errW_some] <;> rfl) | (simp [*, errW_none, errW_some] <;> rfl), by repeat (first | (with_reducible first | exact HB.out | apply below_alloc | apply pw_below_drewN | apply below_drew1) | exact HB.out)⟩

end Go.Proofs.Ytnppcpjkjepfeaa.K
