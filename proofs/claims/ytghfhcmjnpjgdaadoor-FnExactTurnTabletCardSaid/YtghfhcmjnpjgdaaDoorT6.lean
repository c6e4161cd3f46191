-- Laid by a program of this session (wip/pp.py) over the seat's translation, with its own texts for some functions.
import Derived.Test.YtghfhcmjnpjgdaaDoorT0
namespace Go.Proofs.YtghfhcmjnpjgdaaDoor.T
open Go.RowKit Go.Proofs.YtghfhcmjnpjgdaaDoorW.PrintWords Go.Proofs.YtghfhcmjnpjgdaaDoorW.PrintLast Go.Proofs.YtghfhcmjnpjgdaaDoorW.PrintMore
attribute [local go_sem] max2_int min2_int max_two min_two max_three min_three max_four min_four   -- for this text's walks alone
set_option linter.unusedVariables false
set_option linter.unusedSimpArgs false

/-! ### impl_turned: function 58 -/
/-- Whatever is cells and lies below B0, or in block Bs, lies as it lay. -/
def KpT (B0 Bs : Nat) (W W' : World) : Prop := W.heap.size ≤ W'.heap.size ∧ ∀ k o, (k < B0 ∨ k = Bs) → W.heap[k]? = some o → o.isCells = true → W'.heap[k]? = some o
theorem KpT.refl (B0 Bs : Nat) (W : World) : KpT B0 Bs W W := ⟨Nat.le_refl _, fun _ _ _ h _ => h⟩
theorem KpT.trans {B0 Bs : Nat} {A B C : World} (h : KpT B0 Bs A B) (k : KpT B0 Bs B C) : KpT B0 Bs A C := ⟨Nat.le_trans h.1 k.1, fun i o h1 h3 h4 => k.2 i o h1 (h.2 i o h1 h3 h4) h4⟩
theorem KpT.putObj (B0 Bs : Nat) (W : World) (l : Nat) (o o' : Obj) (hl : W.heap[l]? = some o) (hc : o.isCells = false) : KpT B0 Bs W (W.putObj l o') := by
  refine ⟨(grownBy_putObj' W l o').size, fun k x _ hk hx => ?_⟩
  have hne : k ≠ l := by
    rintro rfl
    rw [hl] at hk
    cases hk
    rw [hc] at hx
    cases hx
  exact ((grownBy_putObj' W l o').block k (Array.getElem?_eq_some_iff.1 hk).1 (fun e => hne (by injection e))).trans hk
theorem KpT.of_below {B0 Bs B : Nat} {W W' : World} (h : Below B W W') (h0 : B0 ≤ B) (h1 : Bs < B) : KpT B0 Bs W W' := ⟨h.size, fun k _ h2 h3 _ => (h.block k (by omega)).trans h3⟩
theorem KpT.grown {B0 Bs : Nat} {W W' : World} {row : Option Nat} (h : W.grownBy W' row) (hr : ∀ r, row = some r → B0 ≤ r ∧ r ≠ Bs) : KpT B0 Bs W W' := ⟨h.size, fun k _ h2 h3 _ => (h.block k (Array.getElem?_eq_some_iff.1 h3).1 (fun e => by have := hr k e.symm; omega)).trans h3⟩
theorem KpT.cell {B0 Bs : Nat} {W W' : World} (h : KpT B0 Bs W W') {p : Addr} {v : Value} (hc : W.cell? p = some v) (h1 : p.block < B0 ∨ p.block = Bs) : W'.cell? p = some v := by
  obtain ⟨o, ho, hi⟩ := cells_of_cell hc
  exact (World.cell?_of_block ((h.2 _ o h1 ho hi).trans ho.symm)).trans hc
/-- The first k that come: the last place first. -/
def bkT (n : Nat) : Nat → List Nat
  | 0 => []
  | k + 1 => bkT n k ++ [n - (k + 1)]
theorem bkT_len (n k : Nat) : (bkT n k).length = k := by
  induction k with
  | zero => rfl
  | succ k ih => simp [bkT, ih]
attribute [local go_sem] Oper.semAt_some
set_option maxRecDepth 100000 in
set_option maxHeartbeats 2000000 in
/-- slices.Backward's closure, for every loop body that keeps what is read here. -/
theorem bkT_stops (Bs B0 : Nat) (ad : Option Addr) (zs : List ByteArray) (cap : Nat) (w : World) (hz : zs.length ≤ 1048576) (hs : w.cell? ⟨Bs, 0, none⟩ = some (.slice ad zs.length cap))
    (hC : Kd.C Kd.string w ad zs.length zs) (had : ∀ a, ad = some a → ∀ j, j < zs.length → (a.add j).block < B0) :
    SeqStopsK Fence.wide 3 Tryd.prog 89 #[.pointer (some ⟨Bs, 0, none⟩)] (fun x : { j : Nat // j < zs.length } => #[Value.int .i64 (x.1 : Int), Value.string (rdOf ByteArray.empty zs (x.1 : Int))]) (KpT B0 Bs)
      (fun ys => ys.map Subtype.val = bkT zs.length zs.length) (fun pre => ∃ k, k ≤ zs.length ∧ pre.map Subtype.val = bkT zs.length k) zs.length w := fun l J Jx W hW _ _ hY h0 => by
  have hs' := (hW.cell (World.block_lt_of_cell? w _ hs)).trans hs
  have hC' := Kd.C_below hC hW
  have HC := Aside0.mk hC'
  have HZ := Aside0.mk hz
  have HS := Aside0.mk hs'
  have HA := Aside0.mk had
  have HY := Aside0.mk hY
  have HW0 := Aside0.mk (show wrap64 ((zs.length : Int) - 1) = ((zs.length - 0 : Nat) : Int) - 1 by unfold wrap64; omega)
  clear hC hz hs hW hC' had hY
  refine callsIn_of_wp Tryd.func89 rfl trivial ?_ rfl
  simp only [Tryd.ntmps89, List.size_toArray, List.length_cons, List.length_nil, Nat.reduceAdd, Nat.reduceSub, Array.replicate_succ, Array.replicate_zero, List.push_toArray, List.append_toArray, List.nil_append, List.cons_append]
  gi_wp2
  gi_loopw [3] (fun i wr => ∃ (k : Nat) (pre : List { j : Nat // j < zs.length }), i = .int .i64 (((zs.length - k : Nat) : Int) - 1) ∧ Aside0 (k ≤ zs.length ∧ pre.map Subtype.val = bkT zs.length k) ∧ Aside0 (J pre wr) ∧ Aside0 (KpT B0 Bs W wr))
    (fun i _ => (intOf i + 1).toNat)
  case atStart => exact ⟨0, [], by rw [HW0.out], ⟨Nat.zero_le _, rfl⟩, ⟨h0⟩, ⟨KpT.refl _ _ _⟩⟩
  case round =>
    obtain ⟨k, pre, rfl, HK, HJ, HP⟩ := hrel
    have hbs := HP.out.cell HS.out (.inr rfl)
    by_cases hlt : k < zs.length
    · obtain ⟨j, hj⟩ : ∃ j, j = zs.length - (k + 1) := ⟨_, rfl⟩
      have hz := HZ.out
      have hjl : j < zs.length := by omega
      have ej : ((zs.length - k : Nat) : Int) - 1 = (j : Int) := by omega
      rw [ej]
      obtain ⟨a, ea, hx⟩ := Kd.at_string HC.out (j : Int) (by omega) (by omega)
      cases ea
      have hne := HA.out a rfl (j : Int).toNat (by omega)
      have hx2 := HP.out.cell hx (.inl hne)
      rw [Int.toNat_natCast] at hx2
      obtain ⟨fn, tmps, assign, body, hy, hR⟩ := HY.out pre ⟨j, hjl⟩ wr HJ.out (by have := congrArg List.length HK.out.2; rw [List.length_map, bkT_len] at this; omega)
      dsimp only at hy
      have p1 := eq_true (show (0 : Int) ≤ (j : Int) by omega)
      have q1 := eq_true (show (j : Int) < (zs.length : Int) by omega)
      have HW1 := Aside0.mk (show wrap64 ((j : Int) - 1) = ((zs.length - (k + 1) : Nat) : Int) - 1 by unfold wrap64; omega)
      have HPRE := Aside0.mk (show (pre ++ [(⟨j, hjl⟩ : { j : Nat // j < zs.length })]).map Subtype.val = bkT zs.length (k + 1) by rw [List.map_append, HK.out.2, bkT]; show bkT zs.length k ++ [j] = _; rw [hj])
      have HJL := Aside0.mk (show j < zs.length ∧ k < zs.length ∧ j = zs.length - (k + 1) ∧ zs.length ≤ 1048576 from ⟨hjl, hlt, hj, hz⟩)
      clear hx hne ej hj hz hlt
      gi_wp2
      refine hR.mono ?_
      rintro e W3 (⟨rfl, hJ3, hk3⟩ | ⟨rfl, hJx3⟩)
      · gi_wp2
        go_roundw
        case rel => exact ⟨k + 1, _, by rw [HW1.out], ⟨HJL.out.2.1, HPRE.out⟩, ⟨hJ3⟩, ⟨HP.out.trans hk3⟩⟩
        case measure => have := HJL.out; rw [HW1.out]; simp [intOf]; omega
      · gi_wp2
        refine bodyPost_ret (results_none rfl _ _ _) rfl ?_
        exact ⟨⟨_, rfl⟩, .inr ⟨_, ⟨k + 1, HJL.out.2.1, HPRE.out⟩, hJx3⟩⟩
    · have hk : k = zs.length := by have := HK.out.1; omega
      have ej : ((zs.length - k : Nat) : Int) - 1 = -1 := by omega
      rw [ej]
      subst hk
      gi_wp2
      go_end0
      exact ⟨⟨_, rfl⟩, .inl ⟨pre, HK.out.2, HJ.out⟩⟩
set_option maxHeartbeats 1000000 in
/-- slices.Backward: the slice is boxed; the function value captures the box. -/
theorem bkT_value (a : Option Addr) (len cap : Nat) (w : World) : Calls Tryd.prog 73 #[.slice a len cap] w fun e w' => e = .returned (.func (.func 89) #[] #[.pointer (some ⟨w.heap.size, 0, none⟩)]) ∧ w' = w.alloc (.cells #[.slice a len cap] 28) := by
  go_enter Tryd.func73, Tryd.ntmps73
  go_wp2
  go_ret
  exact ⟨rfl, rfl⟩
/-- The bytes of a column, the last row first: the first k. -/
def colT (l0 : List ByteArray) (x : Int) (js : List Nat) : List Int := js.map fun (j : Nat) => bt (rdOf ByteArray.empty l0 (j : Int)) x
def rowT (l0 : List ByteArray) (x : Nat) : ByteArray := strOfNums (colT l0 (x : Int) (bkT l0.length l0.length))
def allSame (l0 : List ByteArray) : Bool := l0.all fun r => decide (r.size = (rdOf ByteArray.empty l0 0).size)
def impl_turned.f (l0 : List ByteArray) : Option (List ByteArray) :=
  if 0 < l0.length ∧ l0.length ≤ 1000 ∧ (rdOf ByteArray.empty l0 0).size ≤ 1000 ∧ allSame l0 = true then some ((List.range (rdOf ByteArray.empty l0 0).size).map (rowT l0)) else none
def mkD (D : Nat) : Deferred := { target := .collected D, args := #[] }
/-- What stands while a column is gone through: the boxes, the line. -/
structure TrnC (A0 : Option Addr) (n0 c0 : Nat) (x : Int) (xs : List Int) (bX : Nat) (v : Value) (w0 W : World) : Prop where
  below : Below bX w0 W
  bx : Boxed W bX 3 (.int .i64 x)
  bl : Boxed W (bX + 1 + 1) 67 v
  bs : Boxed W (bX + 1 + 1 + 1) 28 (.slice A0 n0 c0)
  own : W.ownsRow bX 5 1 v xs.length (encs (Value.int .u8) xs)
theorem own_cells {W : World} {base : Nat} {e : TypeId} {size k : Nat} {v : Value} {xs : List Value} (h : W.ownsRow base e size v k xs) {r : Nat} (hr : v.ownBlock = some r) : base ≤ r ∧ ∃ o : Obj, W.heap[r]? = some o ∧ o.isCells = true := by
  rcases h.2 with ⟨rfl, _⟩ | ⟨g, cap, cur, rfl, hb, hh, _⟩
  · simp [Value.ownBlock] at hr
  · have : g = r := by simpa [Value.ownBlock] using hr
    subst this
    exact ⟨hb, _, hh, rfl⟩
theorem box_other {W W' : World} {row : Option Nat} {B : Nat} {t : TypeId} {v : Value} (h : Boxed W B t v) (hg : W.grownBy W' row) (hr : ∀ r, row = some r → ∃ o : Obj, W.heap[r]? = some o ∧ o.isCells = false) : Boxed W' B t v :=
  h.kept hg (fun e => by
    obtain ⟨o, ho, hi⟩ := hr B e.symm
    rw [show W.heap[B]? = _ from h] at ho
    cases ho
    cases hi)
theorem TrnC.keep {A0 : Option Addr} {n0 c0 : Nat} {x : Int} {xs : List Int} {bX B : Nat} {v : Value} {w0 W W' : World} {row : Option Nat} (h : TrnC A0 n0 c0 x xs bX v w0 W) (hB : bX ≤ B) (h0 : bX ≤ w0.heap.size) (hg : W.grownBy W' row) (hr : ∀ r, row = some r → B ≤ r ∧ ∃ o : Obj, W.heap[r]? = some o ∧ o.isCells = false) : TrnC A0 n0 c0 x xs bX v w0 W' := by
  have hr2 := fun r e => (hr r e).2
  refine ⟨h.below.grown hg (Nat.le_trans h0 h.below.size) (fun k e => Nat.le_trans hB (hr k e).1), box_other h.bx hg hr2, box_other h.bl hg hr2, box_other h.bs hg hr2, h.own.kept hg ?_⟩
  cases hv : v.ownBlock with
  | none => exact .inl rfl
  | some r =>
    refine .inr fun e => ?_
    obtain ⟨o, ho, hi⟩ := (hr r e.symm).2
    obtain ⟨_, o2, ho2, hi2⟩ := own_cells h.own hv
    rw [ho] at ho2
    cases ho2
    rw [hi] at hi2
    cases hi2
/-- The marks are taken off one by one. -/
theorem leaves_marks {F : Fence} {n : Nat} {P : Program} {fn : Func} {tmps : Array Value} {R : Ending → World → Prop} {v : Value} (B : Nat) (Φ : World → Prop) (hΦ : ∀ W D, B ≤ D → W.heap[D]? = some (.deferred (some [])) → Φ W → Φ (W.putObj D (.deferred none)))
    (hend : ∀ W, Φ W → (results fn tmps).run P W = .ok v W ∧ R (.returned v) W) : ∀ (Ds : List Nat) (W : World), (∀ D ∈ Ds, B ≤ D ∧ W.heap[D]? = some (.deferred (some []))) → Ds.Nodup → Φ W → LeavesInM F n P fn tmps R (Ds.map mkD) .returning W := by
  intro Ds
  induction Ds with
  | nil =>
    intro W _ _ h
    obtain ⟨h1, h2⟩ := hend W h
    exact ⟨v, h1, h2⟩
  | cons D Ds ih =>
    intro W hD hn h
    have hd := hD D (by simp)
    rw [List.nodup_cons] at hn
    refine ⟨by simp, .inl ⟨D, _, rfl, run_takeDeferred hd.2, ?_⟩⟩
    refine ih _ (fun D' hm => ⟨(hD D' (List.mem_cons_of_mem _ hm)).1, ?_⟩) hn.2 (hΦ W D hd.1 hd.2 h)
    rw [World.putObj_heap_other (fun e => hn.1 (by rw [← e]; exact hm))]
    exact (hD D' (List.mem_cons_of_mem _ hm)).2
def turned.T8 : Bool × List (List Nat × List Nat) := (true, [([], []), ([], []), ([], []), ([1, 2], [1, 2]), ([3], [3]), ([0, 4], [0, 4]), ([5, 5, 0, 1, 2, 3, 4, 5], [5])])
def turned.B8 : List Nat := [0, 0, 0, 6, 14, 31, 63]
theorem turned.tab8 : rtab .any (opsOf Tryd.f58 8) = turned.T8 := by kernel_rfl
theorem turned.bits8 : waitsOk turned.T8.2 turned.B8 = true := by kernel_rfl
open Go.Proofs.YtghfhcmjnpjgdaaDoor.Round
set_option maxRecDepth 100000 in
set_option maxHeartbeats 4000000 in
theorem impl_turned.calls (A0 : Option Addr) (c0 : Nat) (l0 : List ByteArray) (r : List ByteArray) (w : World) (hr0 : Kd.string.C w A0 l0.length l0) (hc0 : l0.length ≤ c0) (h : impl_turned.f l0 = some r) :
    Calls Tryd.prog 58 #[.slice A0 l0.length c0] w fun e w' => ∃ v0_ : Value, e = .returned (v0_) ∧ Kd.R Kd.string 9 w' w.heap.size (fun _ => True) v0_ r ∧ Below w.heap.size w w' := by
  unfold impl_turned.f at h
  by_cases hx : 0 < l0.length ∧ l0.length ≤ 1000 ∧ (rdOf ByteArray.empty l0 0).size ≤ 1000 ∧ allSame l0 = true
  · rw [if_pos hx] at h
    obtain rfl := Option.some.inj h
    clear h
    obtain ⟨ad, ea, hx0⟩ := Kd.at_string hr0 (0 : Int) (by omega) (by omega)
    subst ea
    rw [show (0 : Int).toNat = 0 from rfl, Addr.add_zero'] at hx0
    obtain ⟨row, hrow⟩ : ∃ row, row = rdOf ByteArray.empty l0 0 := ⟨_, rfl⟩
    rw [← hrow] at hx0 hx ⊢
    have HROW := Aside0.mk hrow
    have HR := Aside0.mk hr0
    have HX := Aside0.mk hx
    have q0 : ((0 : Int) < (l0.length : Int)) = True := eq_true (by omega)
    have n0 : (0 < l0.length) = True := eq_true (by omega)
    have hx1 := (((Below.refl _ w).alloc (Nat.le_refl _) (.cells #[] 9)).cell (World.block_lt_of_cell? w _ hx0)).trans hx0
    clear hr0 hx hrow hx0
    refine (callsIn_wide (n := 4)).1 ?_
    refine callsIn_of_wp_marks Tryd.func58 rfl trivial ?_ rfl
    simp only [Tryd.ntmps58, List.size_toArray, List.length_cons, List.length_nil, Nat.reduceAdd, Nat.reduceSub, Array.replicate_succ, Array.replicate_zero, List.push_toArray, List.append_toArray, List.nil_append, List.cons_append]
    gi_wp2
    refine wpIn_loop (fun a' W => ∃ (x : Nat) (Ds : List Nat) (v3 u4 u5 u14 u15 u16 u17 u18 u27 u28 u29 u30 u31 u32 : Value),
      a' = { tmps := #[.slice (some ad) l0.length c0, undef, .slice none 0 0, v3, u4, u5, undef, undef, .slice (some ⟨w.heap.size, 0, none⟩) 0 0, .slice (some ad) l0.length c0, .pointer (some ad), .string row, .int .i64 (row.size : Int), .int .i64 (x : Int), u14, u15, u16, u17, u18, undef, undef, undef, undef, undef, undef, undef, undef, u27, u28, u29, u30, u31, u32, undef], defers := Ds.map mkD } ∧
      Aside0 (x ≤ row.size) ∧ Aside0 (Below w.heap.size w W) ∧ Aside0 (Kd.R Kd.string 9 W w.heap.size (fun _ => True) v3 ((List.range x).map (rowT l0))) ∧ Aside0 ((∀ D ∈ Ds, w.heap.size ≤ D ∧ W.heap[D]? = some (.deferred (some []))) ∧ Ds.Nodup))
      (fun a' _ => row.size - (intOf (a'.tmps.getD 13 undef)).toNat) ?_ ?_
    · refine ⟨0, [], _, _, _, _, _, _, _, _, _, _, _, _, _, _, rfl, ⟨Nat.zero_le _⟩, ⟨(Below.refl _ w).alloc (Nat.le_refl _) _⟩, ⟨?_⟩, ⟨by simp, List.nodup_nil⟩⟩
      exact Kd.R_of_own ⟨rfl, .inr ⟨w.heap.size, 0, #[], rfl, Nat.le_refl _, World.alloc_heap_new w _, Nat.le_refl _, Nat.zero_le _, rfl, rfl⟩⟩ (fun _ _ => trivial)
    · rintro a' W ⟨x, Ds, v3, u4, u5, u14, u15, u16, u17, u18, u27, u28, u29, u30, u31, u32, rfl, HXL, HB, HO, HD⟩
      by_cases hlt : x < row.size
      · have c1 : decide ((x : Int) < (row.size : Int)) = true := decide_eq_true (by omega)
        have c1n : decide (x < row.size) = true := decide_eq_true (by omega)
        have HLT := Aside0.mk hlt
        clear hlt
        gi_wp2_with (refine ⟨trivial, ?_⟩; gi_at_call 73; (with_reducible refine (callsIn_wide.2 (bkT_value (some ad) l0.length c0 _)).mono ?_); rintro e w2 ⟨rfl, rfl⟩)
        have hbW := HB.out
        have hD := HD.out
        have hO := HO.out
        have hxs := HX.out
        have hsame : ∀ j : Nat, j < l0.length → (x : Int) < ((rdOf ByteArray.empty l0 (j : Int)).size : Int) := by
          intro j hj
          have h1 := hxs.2.2.2
          unfold allSame at h1
          rw [List.all_eq_true] at h1
          have e : rdOf ByteArray.empty l0 (j : Int) = l0[j] := by simp [rdOf, List.getD_eq_getElem?_getD, List.getElem?_eq_getElem hj]
          have h2 := of_decide_eq_true (h1 l0[j] (List.getElem_mem hj))
          rw [e, h2, ← HROW.out]
          have := HLT.out
          omega
        have hTC : TrnC (some ad) l0.length c0 (x : Int) [] W.heap.size (.slice (some ⟨W.heap.size + 1, 0, none⟩) 0 0) W ((((W.alloc (.cells #[.int .i64 (x : Int)] 3)).alloc (.cells #[] 5)).alloc (.cells #[.slice (some ⟨W.heap.size + 1, 0, none⟩) 0 0] 67)).alloc (.cells #[.slice (some ad) l0.length c0] 28)) := by
          have s1 : (W.alloc (.cells #[.int .i64 (x : Int)] 3)).heap.size = W.heap.size + 1 := World.size_alloc _ _
          have s2 : ((W.alloc (.cells #[.int .i64 (x : Int)] 3)).alloc (.cells #[] 5)).heap.size = W.heap.size + 1 + 1 := by rw [World.size_alloc, s1]
          have s3 : (((W.alloc (.cells #[.int .i64 (x : Int)] 3)).alloc (.cells #[] 5)).alloc (.cells #[.slice (some ⟨W.heap.size + 1, 0, none⟩) 0 0] 67)).heap.size = W.heap.size + 1 + 1 + 1 := by rw [World.size_alloc, s2]
          have b1 := Boxed.new W 3 (.int .i64 (x : Int))
          have b2 := World.alloc_heap_new (W.alloc (.cells #[.int .i64 (x : Int)] 3)) (.cells #[] 5)
          rw [s1] at b2
          have b3 := Boxed.new ((W.alloc (.cells #[.int .i64 (x : Int)] 3)).alloc (.cells #[] 5)) 67 (.slice (some ⟨W.heap.size + 1, 0, none⟩) 0 0)
          rw [s2] at b3
          have b4 := Boxed.new (((W.alloc (.cells #[.int .i64 (x : Int)] 3)).alloc (.cells #[] 5)).alloc (.cells #[.slice (some ⟨W.heap.size + 1, 0, none⟩) 0 0] 67)) 28 (.slice (some ad) l0.length c0)
          rw [s3] at b4
          refine ⟨((((Below.refl _ W).alloc (Nat.le_refl _) _).alloc (by omega) _).alloc (by omega) _).alloc (by omega) _, ((b1.alloc _).alloc _).alloc _, b3.alloc _, b4, rfl, .inr ⟨W.heap.size + 1, 0, #[], rfl, by omega, ?_, Nat.le_refl _, Nat.zero_le _, rfl, rfl⟩⟩
          exact (Below.heap_alloc _ _ _ (by omega)).trans ((Below.heap_alloc _ _ _ (by omega)).trans b2)
        have hsz : ((((W.alloc (.cells #[.int .i64 (x : Int)] 3)).alloc (.cells #[] 5)).alloc (.cells #[.slice (some ⟨W.heap.size + 1, 0, none⟩) 0 0] 67)).alloc (.cells #[.slice (some ad) l0.length c0] 28)).heap.size = W.heap.size + 1 + 1 + 1 + 1 := by
          rw [World.size_alloc, World.size_alloc, World.size_alloc, World.size_alloc]
        generalize ((((W.alloc (.cells #[.int .i64 (x : Int)] 3)).alloc (.cells #[] 5)).alloc (.cells #[.slice (some ⟨W.heap.size + 1, 0, none⟩) 0 0] 67)).alloc (.cells #[.slice (some ad) l0.length c0] 28)) = W0 at *
        have hC0 := Kd.C_below HR.out (hbW.trans (hTC.below.mono hbW.size))
        refine wpIn_rangeFunc_ownG rfl (by omega) (gf := 89) (lb := #[.pointer (some ⟨W.heap.size + 1 + 1 + 1, 0, none⟩)]) rfl trivial (enters_of Tryd.func89 (by kernel_rfl) rfl)
          (bkT_stops (W.heap.size + 1 + 1 + 1) W.heap.size (some ad) l0 c0 W0 (by omega) hTC.bs.cell hC0 (fun a ea j hj => by
            obtain ⟨a2, e2, h2⟩ := Kd.at_string HR.out (j : Int) (by omega) (by omega)
            have e3 : a = a2 := by rw [ea] at e2; exact Option.some.inj e2
            subst e3
            have h4 := World.block_lt_of_cell? w _ h2
            rw [Int.toNat_natCast] at h4
            exact Nat.lt_of_lt_of_le h4 hbW.size)) (fun h k => KpT.trans h k) (fun W l o o' _ ho hc _ => KpT.putObj _ _ W l o o' ho hc) (Below.refl _ _) (fun _ => rfl)
          (fun pre Wk => ∃ v, TrnC (some ad) l0.length c0 (x : Int) (colT l0 (x : Int) (pre.map Subtype.val)) W.heap.size v W Wk)
          (fun _ _ _ => False)
          (fun s A B row ⟨v, h1⟩ hg hr => ⟨v, h1.keep (by omega) (Nat.le_refl _) hg hr⟩)
          (fun c s A B row h _ _ => h)
          ⟨_, hTC⟩
          (fun y => { tmps := #[.slice (some ad) l0.length c0, undef, .slice none 0 0, v3, .pointer (some ⟨W.heap.size, 0, none⟩), .pointer (some ⟨W.heap.size + 1 + 1, 0, none⟩), undef, .string (rdOf ByteArray.empty l0 (y.1 : Int)), .slice (some ⟨w.heap.size, 0, none⟩) 0 0, .slice (some ad) l0.length c0, .pointer (some ad), .string row, .int .i64 (row.size : Int), .int .i64 (x : Int), .bool true, .int .i64 (x : Int), .slice (some ⟨W.heap.size + 1, 0, none⟩) 0 0, .slice (some ad) l0.length c0, .func (.func 89) #[] #[.pointer (some ⟨W.heap.size + 1 + 1 + 1, 0, none⟩)], .int .i64 (y.1 : Int), .string (rdOf ByteArray.empty l0 (y.1 : Int)), undef, undef, undef, undef, undef, undef, u27, u28, u29, u30, u31, u32, undef], defers := [] }) ?assign ?body ?done ?stop
        case assign =>
          intro l y W K hK
          gi_wp2
          exact hK
        case body =>
          rintro l pre ⟨j, hj⟩ Wk ⟨v, hT⟩ hplen
          obtain ⟨js, hjs⟩ : ∃ js, js = pre.map Subtype.val := ⟨_, rfl⟩
          rw [← hjs] at hT
          have HJS := Aside0.mk hjs
          have HJL := Aside0.mk (show js.length < l0.length by rw [hjs, List.length_map]; exact hplen)
          clear hjs
          obtain ⟨Av, cv, ev⟩ := own_slice hT.own
          subst ev
          have hcl := hT.bl.cell
          have hcx := hT.bx.cell
          have hfl := hT.bl.frozen
          have hmx : Tryd.prog.follows .mixedOrders = true := by kernel_rfl
          have p1 := eq_true (show (0 : Int) ≤ (x : Int) by omega)
          have q1 := eq_true (hsame j hj)
          have hxb : ∀ h : x < (rdOf ByteArray.empty l0 (j : Int)).size, ((((rdOf ByteArray.empty l0 (j : Int))[x]'h).toNat : Nat) : Int) = bt (rdOf ByteArray.empty l0 (j : Int)) (x : Int) := fun h => bt_at (rdOf ByteArray.empty l0 (j : Int)) (x : Int) h
          have HT := Aside0.mk hT
          have HPL := Aside0.mk hplen
          have HSZ := Aside0.mk hsz
          have HXS := Aside0.mk hxs
          clear hT hplen hsz hxs hsame hC0 hTC hO hD hbW
          gi_wp2
          refine startR_ (n := 7) (S := (fun w' => w'.cell? ⟨W.heap.size + 1 + 1, 0, none⟩ = some (.slice Av (colT l0 (x : Int) js).length cv) ∧ w'.cell? ⟨W.heap.size, 0, none⟩ = some (.int .i64 (x : Int)))) (ds := [5, 6]) #[false, false, false, false, false, false, false] hmx (by kernel_rfl) (fun ⟨_, _, h⟩ => h) rfl rfl ⟨hcl, hcx⟩ (fun hHeld => ?_); refine with_tabW turned.tab8 turned.bits8 (fun HT_ HW_ => ?_)
          refine take_ (i := 0) (N := some 21) (v := ?_) (a' := ?_) #[true, false, false, false, false, false, false] rfl rfl (take_ofW HT_.out HW_.out (by kernel_rfl)) (fun _ _ _ h => h) (Or.inl ⟨by rfl, ?_⟩) hHeld ?_ ?_
          rotate_left
          · rintro w' ⟨s0_, s1_⟩
            go_simp
            with_reducible rfl
          rotate_left
          · simp only [Act.put, List.setIfInBounds_toArray, List.set_cons_zero, List.set_cons_succ, i64_w, i32_w]
            rfl
          refine pure_ (i := 1) (N := some 22) (v := ?_) (a' := ?_) #[true, true, false, false, false, false, false] rfl rfl (any_of HT_.out (by kernel_rfl)) (fun _ _ _ h => h) (Or.inl ⟨by rfl, ?_⟩) ?_ ?_
          rotate_left
          · intro w'
            go_simp
            with_reducible rfl
          rotate_left
          · simp only [Act.put, List.setIfInBounds_toArray, List.set_cons_zero, List.set_cons_succ, i64_w, i32_w]
            rfl
          refine take_ (i := 2) (N := some 23) (v := ?_) (a' := ?_) #[true, true, true, false, false, false, false] rfl rfl (take_ofW HT_.out HW_.out (by kernel_rfl)) (fun _ _ _ h => h) (Or.inl ⟨by rfl, ?_⟩) hHeld ?_ ?_
          rotate_left
          · rintro w' ⟨s0_, s1_⟩
            go_simp
            with_reducible rfl
          rotate_left
          · simp only [Act.put, List.setIfInBounds_toArray, List.set_cons_zero, List.set_cons_succ, i64_w, i32_w]
            rfl
          refine pure_ (i := 3) (N := some 24) (v := ?_) (a' := ?_) #[true, true, true, true, false, false, false] rfl rfl (any_of HT_.out (by kernel_rfl)) (fun _ _ _ h => h) (Or.inl ⟨by rfl, ?_⟩) ?_ ?_
          rotate_left
          · intro w'
            go_simp
            with_reducible rfl
          rotate_left
          · simp only [Act.put, List.setIfInBounds_toArray, List.set_cons_zero, List.set_cons_succ, i64_w, i32_w]
            rfl
          refine one_ (i := 4) (N := some 25) #[true, true, true, true, true, false, false] rfl rfl (one_of HT_.out (by kernel_rfl)) (by decide) (fun K hK => ?_)
          refine value_ (w1 := ?_) (v := ?_) (by rfl) rfl ?_ ?_
          rotate_left 2
          · go_simp
            constructor
            · rfl
            · rfl
          refine hK.out _ _ ⟨(((Below.refl _ Wk).alloc (Nat.le_refl _) _).cell (World.block_lt_of_cell? Wk _ hcl)).trans hcl, (((Below.refl _ Wk).alloc (Nat.le_refl _) _).cell (World.block_lt_of_cell? Wk _ hcx)).trans hcx⟩ (fun hHeld => ?_)
          clear hK K
          refine norm_ (a' := ?_) ?_ ?_
          rotate_left
          · show Act.put _ (some 25) _ = _
            simp only [Act.put, List.setIfInBounds_toArray, List.set_cons_zero, List.set_cons_succ, i64_w, i32_w]
            rfl
          refine last_ (i := 5) (N := some 26) #[true, true, true, true, true, true, false] rfl rfl (one_of HT_.out (by kernel_rfl)) (by decide) (fun K hK => ?_)
          have hTd : TrnC (some ad) l0.length c0 (x : Int) (colT l0 (x : Int) js) W.heap.size (.slice Av (colT l0 (x : Int) js).length cv) W Wk.drew := ⟨below_drew1 HT.out.below, HT.out.bx, HT.out.bl, HT.out.bs, HT.out.own⟩
          refine Kd.R_append_step (Kd.int .u8) (w0 := W) (W := Wk.drew) W.heap.size (by rfl) (.tmp 21) (.tmp 25) 67 5 (.int .u8 0) 1 rfl Tryd.underlying67 info5 rfl (by decide) (by omega) (.slice Av (colT l0 (x : Int) js).length cv) (colT l0 (x : Int) js) (bt (rdOf ByteArray.empty l0 (j : Int)) (x : Int)) [.int .u8 (bt (rdOf ByteArray.empty l0 (j : Int)) (x : Int))] (fun _ => True) (fun _ => False) rfl rfl ?aP (fun _ hk => hk.elim) (fun _ _ => trivial) (Kd.R_of_own hTd.own (fun _ _ => trivial)) hTd.below hTd.below.size ?aL ?_
          case aP => exact rfl
          case aL => have := HJL.out; have h2 := HXS.out; unfold colT; rw [List.length_map]; omega
          intro v1 w1 ho hb hg hat
          have ho1 := Kd.own_of_R ho
          rw [show (colT l0 (x : Int) js ++ [bt (rdOf ByteArray.empty l0 (j : Int)) (x : Int)]) = colT l0 (x : Int) ((pre ++ [(⟨j, hj⟩ : { j : Nat // j < l0.length })]).map Subtype.val) by rw [List.map_append, ← HJS.out]; simp [colT]] at ho1
          have hbl1 := hTd.bl.kept hg (hTd.bl.not_row (by decide) hTd.own)
          have hbx1 := hTd.bx.kept hg (hTd.bx.not_row (by decide) hTd.own)
          have hbs1 := hTd.bs.kept hg (hTd.bs.not_row (by decide) hTd.own)
          have hnr := hTd.bs.not_row (by decide) hTd.own
          obtain ⟨xs1, hxs1⟩ : ∃ xs1, xs1 = colT l0 (x : Int) ((pre ++ [(⟨j, hj⟩ : { j : Nat // j < l0.length })]).map Subtype.val) := ⟨_, rfl⟩
          rw [← hxs1] at ho1
          have HXS1 := Aside0.mk hxs1
          clear hxs1
          obtain ⟨Av1, cv1, ev1⟩ := own_slice ho1
          subst ev1
          have hcl1 := hbl1.cell
          have hfl1 := hbl1.frozen
          have hown := hTd.own
          refine hK.out _ _ ?_
          clear hK K ho
          refine norm_ (a' := ?_) ?_ ?_
          rotate_left
          · show Act.put _ (some 26) _ = _
            simp only [Act.put, List.setIfInBounds_toArray, List.set_cons_zero, List.set_cons_succ, i64_w, i32_w]
            rfl
          refine last_ (i := 6) (N := none) #[true, true, true, true, true, true, true] rfl rfl (one_of HT_.out (by kernel_rfl)) (by decide) (fun K hK => ?_)
          rw [if_pos (by rfl)]
          go_simp
          refine hK.out _ _ ?_
          clear hK K
          refine done_ (done_of HT_.out (by kernel_rfl)) ?_
          gi_wp2
          have hcc : ∀ (r : Nat) (o : Obj), (Value.slice Av (colT l0 (x : Int) js).length cv).ownBlock = some r → Wk.drew.heap[r]? = some o → o.isCells = true := fun r o er hr => by
            obtain ⟨_, o2, h2, h3⟩ := own_cells hown er
            rw [hr] at h2
            cases h2
            exact h3
          refine ⟨(((KeepsOthers.drew Wk).trans (KeepsOthers.of_grownBy hg hcc)).trans (KeepsOthers.setCell _ _ _)).from _, ?_, ⟨_, hb.setCell (p := ⟨W.heap.size + 1 + 1, 0, none⟩) (by simp only []; omega) _, hbx1.kept (grownBy_setCell' w1 _ _) (by simp; omega), hbl1.set _, hbs1.kept (grownBy_setCell' w1 _ _) (by simp), ?_⟩⟩
          · have k1 : KpT W.heap.size (W.heap.size + 1 + 1 + 1) Wk w1 := KpT.grown (W := Wk.drew) hg (fun r er => ⟨(own_cells hown er).1, fun e => hnr (by rw [er, e])⟩)
            exact k1.trans (KpT.grown (grownBy_setCell' w1 _ _) (fun r er => by injection er with er; omega))
          · rw [← HXS1.out]
            exact ho1.kept (grownBy_setCell' w1 _ _) (.inr (hbl1.not_row (by decide) ho1).symm)
        case done =>
          rintro D ys W1 hDz hys ⟨v, hT⟩ hK
          rw [hys] at hT
          obtain ⟨xs, hxs2⟩ : ∃ xs, xs = colT l0 (x : Int) (bkT l0.length l0.length) := ⟨_, rfl⟩
          rw [← hxs2] at hT
          obtain ⟨Av, cv, ev⟩ := own_slice hT.own
          subst ev
          have hcl := hT.bl.cell
          have hR1 := Kd.R_of_own (h1 := fun _ => rfl) (ok := fun _ => True) hT.own (fun _ _ => trivial)
          have hconv : (convert 67 9 (.slice Av xs.length cv)).run Tryd.prog W1 = .ok (.string (strOfNums xs)) W1 := Kd.C_string Tryd.underlying67 Tryd.underlying5 Tryd.underlying9 (Kd.R_reads' hR1).2.2
          have hrow2 : strOfNums xs = rowT l0 x := by rw [hxs2]; rfl
          rw [hrow2] at hconv
          have HXX := Aside0.mk hxs2
          have hO1 := Kd.R_below hO hT.below
          obtain ⟨Ar, cr, er⟩ := Kd.R_slice hO1
          clear hR1 hrow2 hxs2 hys
          have hOX := Kd.own_of_R hO1
          have HOX := Aside0.mk (show (W1.alloc (.cells #[.string (rowT l0 x)] 9)).ownsRow w.heap.size 9 1 v3 ((List.range x).map (rowT l0)).length (encs Value.string ((List.range x).map (rowT l0))) from hOX.alloc _)
          obtain ⟨i0, hi0, hz0, hsz0, hby0⟩ := info_parts info9
          have hnew : ∀ (j : Nat) (u : Value), [Value.string (rowT l0 x)][j]? = some u → (W1.alloc (.cells #[.string (rowT l0 x)] 9)).cell? ((⟨W1.heap.size, 0, none⟩ : Addr).add j) = some u := by
            intro j u hu
            cases j with
            | zero => cases hu; rw [Addr.add_zero']; exact (Boxed.new W1 9 (.string (rowT l0 x))).cell
            | succ j => simp at hu
          have hlen : ((List.range x).map (rowT l0)).length = x := by rw [List.length_map, List.length_range]
          have hxl := HXL.out
          have hwW : w.heap.size ≤ W1.heap.size := Nat.le_trans hbW.size hT.below.size
          have HNEW := Aside0.mk hnew
          have HLEN := Aside0.mk hlen
          have HT := Aside0.mk hT
          have HO1 := Aside0.mk hO1
          have HER := Aside0.mk er
          have HDZ := Aside0.mk hDz
          have HK := Aside0.mk hK
          have HSZ := Aside0.mk hsz
          have HDD := Aside0.mk hD
          have HXS := Aside0.mk hxs
          clear hOX hnew hlen hO1 hT hDz hK hsz hD hxs er hO hC0 hTC hsame
          gi_wp2_with (refine wpListIn_append_own (W1.alloc (.cells #[.string (rowT l0 x)] 9)) rfl (.tmp 27) (.tmp 30) 28 rfl w.heap.size 9 i0 (.string ⟨#[]⟩) 1 16 Tryd.underlying28 hi0 hz0 hsz0 hby0 rfl (by decide) v3 ((List.range x).map (rowT l0)).length (encs Value.string ((List.range x).map (rowT l0))) rfl HOX.out ⟨W1.heap.size, 0, none⟩ 1 1 [.string (rowT l0 x)] rfl rfl HNEW.out (by intro u hu; rw [List.mem_singleton.1 hu]; rfl) ?b1 ?b2 ?b3 ?_; (case b1 => rw [HLEN.out]; have := HXS.out; unfold maxLen; omega); (case b2 => rw [HLEN.out]; have := HXS.out; omega); (case b3 => rw [World.size_alloc]; omega); intro v4 W2 hown4 hg4 hnil4)
          have hw : wrap64 ((x : Int) + 1) = ((x + 1 : Nat) : Int) := by unfold wrap64; have := HXS.out; omega
          rw [hw]
          have hB1 : Below w.heap.size w W1 := hbW.trans (HT.out.below.mono hbW.size)
          have hB2 : Below w.heap.size w W2 := (hB1.alloc hB1.size _).grown hg4 (by rw [World.size_alloc]; omega) (fun r er => (own_cells HOX.out er).1)
          have hown5 : W2.ownsRow w.heap.size 9 1 v4 ((List.range (x + 1)).map (rowT l0)).length (encs Value.string ((List.range (x + 1)).map (rowT l0))) := by
            rw [List.range_succ, List.map_append, encs_append, List.length_append]
            exact hown4
          have hdef : ∀ D' : Nat, W1.heap[D']? = some (Obj.deferred (some [])) → W2.heap[D']? = some (Obj.deferred (some [])) := by
            intro D' h1
            have hlt := (Array.getElem?_eq_some_iff.1 h1).1
            have h2 := (Below.heap_alloc W1 (.cells #[.string (rowT l0 x)] 9) D' hlt).trans h1
            refine (hg4.block D' (by rw [World.size_alloc]; omega) (fun e => ?_)).trans h2
            obtain ⟨_, o2, ho2, hi2⟩ := own_cells HOX.out e.symm
            rw [h2] at ho2
            cases ho2
            cases hi2
          have hold : ∀ D', D' ∈ Ds → D' < W.heap.size := fun D' hm => (Array.getElem?_eq_some_iff.1 (HDD.out.1 D' hm).2).1
          have hdz := HDZ.out
          have hszo := HSZ.out
          refine ⟨⟨x + 1, D :: Ds, v4, _, _, _, _, _, _, _, _, _, _, _, _, _, rfl, ⟨HLT.out⟩, ⟨hB2⟩, ⟨Kd.R_of_own hown5 (fun _ _ => trivial)⟩, ⟨?_, ?_⟩⟩, ?_⟩
          · intro D' hm
            rcases List.mem_cons.1 hm with rfl | hm
            · exact ⟨by have := hbW.size; omega, hdef _ HK.out⟩
            · exact ⟨(HDD.out.1 D' hm).1, hdef _ ((HT.out.below.block D' (hold D' hm)).trans (HDD.out.1 D' hm).2)⟩
          · rw [List.nodup_cons]
            exact ⟨fun hm => by have := hold D hm; omega, HDD.out.2⟩
          · show row.size - (((x + 1 : Nat) : Int)).toNat < row.size - ((x : Int)).toNat
            rw [Int.toNat_natCast, Int.toNat_natCast]
            have := HLT.out
            omega
        case stop =>
          rintro D c pre W1 _ _ h _
          exact h.elim
      · have c1 : decide ((x : Int) < (row.size : Int)) = false := decide_eq_false (by omega)
        have c1n : decide (x < row.size) = false := decide_eq_false (by omega)
        obtain rfl : x = row.size := by have := HXL.out; omega
        clear hlt
        gi_wp2
        refine leaves_marks (v := v3) w.heap.size (fun W1 => Kd.R Kd.string 9 W1 w.heap.size (fun _ => True) v3 ((List.range row.size).map (rowT l0)) ∧ Below w.heap.size w W1) ?_ ?_ Ds W HD.out.1 HD.out.2 ⟨HO.out, HB.out⟩
        · rintro W1 D hD hk ⟨h1, h2⟩
          exact ⟨Kd.R_of_own (ownsRow_putObj (Kd.own_of_R h1) _ hk rfl) (fun _ _ => trivial), h2.grown (grownBy_putObj' W1 D _) h2.size (fun r e => by cases e; exact hD)⟩
        · rintro W1 ⟨h1, h2⟩
          refine ⟨?_, v3, rfl, h1, h2⟩
          simp [results, Tryd.f58, go_sem]
  · rw [if_neg hx] at h
    cases h

end Go.Proofs.YtghfhcmjnpjgdaaDoor.T
