-- Laid by a program of this session (wip/pp.py) over the seat's translation, with its own texts for some functions.
import Derived.Test.YtnppcpjkjepfeaaU0
import Derived.Test.YtnppcpjkjepfeaaU3
namespace Go.Proofs.Ytnppcpjkjepfeaa.U
open Go.RowKit Go.Proofs.YtnppcpjkjepfeaaW.PrintWords Go.Proofs.YtnppcpjkjepfeaaW.PrintLast Go.Proofs.YtnppcpjkjepfeaaW.PrintMore
attribute [local go_sem] max2_int min2_int max_two min_two max_three min_three max_four min_four   -- for this text's walks alone
set_option linter.unusedVariables false
set_option linter.unusedSimpArgs false

/-! ### impl_BestTake: function 27 -/
/-- A list's sum as the program reckons it. -/
def sumW : List Int → Int → Int
  | [], s => s
  | x :: r, s => sumW r (wrap64 (s + x))
theorem sum_l0 (xs : List Int) (hx : xs.length ≤ 1048576) (d : Nat) : ∀ (j : Nat) (s : Int), xs.length - j = d → j ≤ xs.length → ∃ k, impl_sum.l0 k s xs (xs.length : Int) (j : Int) = some (sumW (xs.drop j) s) := by
  induction d with
  | zero =>
    intro j s hd hj
    refine ⟨1, ?_⟩
    simp only [impl_sum.l0]
    rw [if_neg (by omega), List.drop_of_length_le (by omega)]
    rfl
  | succ d ih =>
    intro j s hd hj
    have hj1 : j < xs.length := by omega
    have e : rd xs (j : Int) = xs[j] := by simp [rd, List.getD_eq_getElem?_getD, List.getElem?_eq_getElem hj1]
    obtain ⟨k, hk⟩ := ih (j + 1) (wrap64 (s + xs[j])) (by omega) (by omega)
    refine ⟨k + 1, ?_⟩
    simp only [impl_sum.l0]
    have hw : wrap64 ((j : Int) + 1) = ((j + 1 : Nat) : Int) := by unfold wrap64; omega
    rw [if_pos (by omega), if_pos (by omega), if_pos (by omega), e, hw, hk, List.drop_eq_getElem_cons hj1]
    rfl
theorem sum_some (xs : List Int) (hx : xs.length ≤ 1048576) : ∃ k, impl_sum.f k xs = some (sumW xs 0) := sum_l0 xs hx xs.length 0 0 (by omega) (by omega)
/-- The weight of the bars from f to t. -/
def seg (xs : List Int) (f t : Int) : Int := sumW ((xs.take t.toNat).drop f.toNat) 0
/-- What the player who is to take has in the end of the d bars from f on, and whether the first one is taken. -/
def tk (xs : List Int) : Nat → Int → Int × Bool
  | 0, _ => (0, true)
  | d + 1, f => (mx (wrap64 (seg xs f (f + (d + 1 : Nat)) - (tk xs d (f + 1)).1)) (wrap64 (seg xs f (f + (d + 1 : Nat)) - (tk xs d f).1)), decide (wrap64 (seg xs f (f + (d + 1 : Nat)) - (tk xs d f).1) ≤ wrap64 (seg xs f (f + (d + 1 : Nat)) - (tk xs d (f + 1)).1)))
def TT (xs : List Int) (i j : Int) : Int := (tk xs (j - i).toNat i).1
theorem tkLaid : laidOutB Try.prog = true := by kernel_rfl
theorem tkRow : (57 : TypeId) < Try.prog.types.size := of_decide_eq_true (by kernel_rfl)
theorem tkWide : (match Try.prog.underlying 57 with | some (.array _ _) | some (.struct _) => true | _ => false) = true := by rw [Try.underlying57]
theorem tkKeyed : Maps.Keyed Try.prog 57 := Maps.Keyed.of_law (deep_law_laid tkLaid (m := 2) (by omega) tkRow (by kernel_rfl) tkWide)
theorem tkArr : WideMaps.ArrKey Try.prog 57 3 2 := ⟨Try.underlying57, by kernel_rfl, by kernel_rfl, by kernel_rfl⟩
theorem tkSize : ∃ m, Try.prog.types.size = m + 1 := ⟨_, (Nat.succ_pred_eq_of_pos (Nat.lt_of_le_of_lt (Nat.zero_le _) tkRow)).symm⟩
theorem wf_small {x : Int} (h0 : -1 ≤ x) (h1 : x ≤ 1048577) : (Lit.int .i64 x).wf = true := by
  have hmin : IntKind.i64.min = -9223372036854775808 := rfl
  have hmax : IntKind.i64.max = 9223372036854775807 := rfl
  simp only [Lit.wf, Bool.and_eq_true, decide_eq_true_eq]
  omega
theorem tkKey {i j : Int} (hi0 : -1 ≤ i) (hi : i ≤ 1048577) (hj0 : -1 ≤ j) (hj : j ≤ 1048577) : ∃ l, keyOf Try.prog 57 (.agg #[.int .i64 i, .int .i64 j]) = some l :=
  ⟨_, WideMaps.keyOf_pair tkArr Try.underlying3 tkSize (wf_small hi0 hi) (wf_small hj0 hj)⟩
/-- Block m is a map that knows only right answers. -/
def KnownAt (xs : List Int) (W : World) (m : Nat) : Prop :=
  ∃ es clock, W.heap[m]? = some (.map es clock) ∧ ∀ e ∈ es.toList, ∃ i j : Int, -1 ≤ i ∧ i ≤ 1048577 ∧ -1 ≤ j ∧ j ≤ 1048577 ∧ e.key = .agg #[.int .i64 i, .int .i64 j] ∧ e.val = .int .i64 (TT xs i j)
theorem known_keys {es : List MapEntry} {xs : List Int} (h : ∀ e ∈ es, ∃ i j : Int, -1 ≤ i ∧ i ≤ 1048577 ∧ -1 ≤ j ∧ j ≤ 1048577 ∧ e.key = .agg #[.int .i64 i, .int .i64 j] ∧ e.val = .int .i64 (TT xs i j)) : ∀ e ∈ es, ∃ l, keyOf Try.prog 57 e.key = some l := by
  intro e he
  obtain ⟨i, j, h0, h1, h2, h3, hk, _⟩ := h e he
  rw [hk]
  exact tkKey h0 h1 h2 h3
theorem known_look {xs : List Int} {W : World} {m : Nat} (hk : KnownAt xs W m) {i j : Int} (hi0 : -1 ≤ i) (hi : i ≤ 1048577) (hj0 : -1 ≤ j) (hj : j ≤ 1048577) :
    ∃ c b, (Instr.lookup 77 (.map (some m)) (.agg #[.int .i64 i, .int .i64 j]) true).run Try.prog W = .ok (.tuple #[.int .i64 c, .bool b]) W ∧ (b = true → c = TT xs i j) := by
  obtain ⟨es, clock, hb, hes⟩ := hk
  obtain ⟨l, hl⟩ := tkKey hi0 hi hj0 hj
  have hz : (zeroValue 3).run Try.prog W = .ok (.int .i64 0) W := by kernel_rfl
  rcases tkKeyed.find W hl es.toList (known_keys hes) with ⟨h1, _⟩ | ⟨q, e0, h1, h2, h3⟩
  · exact ⟨0, false, by simp [Instr.lookup, run_underlying Try.underlying77, MapKept.run_getObj_map hb, tkKeyed.check W _ hl, h1, hz, Result.andThen], fun h => by cases h⟩
  · obtain ⟨i', j', _, _, _, _, hk', hv'⟩ := hes e0 (List.mem_of_getElem? h2)
    rw [h3] at hk'
    injection hk' with hk'
    simp at hk'
    obtain ⟨rfl, rfl⟩ := hk'
    exact ⟨TT xs i j, true, by simp [Instr.lookup, run_underlying Try.underlying77, MapKept.run_getObj_map hb, tkKeyed.check W _ hl, h1, hv', Result.andThen], fun _ => rfl⟩
theorem known_set {xs : List Int} {W : World} {m : Nat} (hk : KnownAt xs W m) {i j : Int} (hi0 : -1 ≤ i) (hi : i ≤ 1048577) (hj0 : -1 ≤ j) (hj : j ≤ 1048577) :
    ∃ W', (Instr.mapUpdate 77 (.map (some m)) (.agg #[.int .i64 i, .int .i64 j]) (.int .i64 (TT xs i j))).run Try.prog W = .ok () W' ∧ KnownAt xs W' m ∧ W.grownBy W' (some m) := by
  obtain ⟨es, clock, hb, hes⟩ := hk
  obtain ⟨l, hl⟩ := tkKey hi0 hi hj0 hj
  rcases tkKeyed.find W hl es.toList (known_keys hes) with ⟨h1, _⟩ | ⟨q, e0, h1, h2, h3⟩
  · refine ⟨{ W with heap := W.heap.setIfInBounds m (.map (es.push { key := .agg #[.int .i64 i, .int .i64 j], val := .int .i64 (TT xs i j), born := clock }) (clock + 1)) }, by simp [Instr.mapUpdate, run_underlying Try.underlying77, MapKept.run_getObj_map hb, tkKeyed.check W _ hl, h1, MapKept.run_setObj_map _ hb, Result.andThen], ⟨_, _, (MapKept.heap_set hb).1, ?_⟩, ⟨rfl, rfl, rfl, by simp, fun r' _ hr => (MapKept.heap_set hb).2 r' (fun e => hr (by rw [e]))⟩⟩
    intro e he
    simp only [Array.toList_push, List.mem_append, List.mem_singleton] at he
    rcases he with he | rfl
    · exact hes e he
    · exact ⟨i, j, hi0, hi, hj0, hj, rfl, rfl⟩
  · have hq : es[q]? = some e0 := by simpa using h2
    refine ⟨{ W with heap := W.heap.setIfInBounds m (.map (es.modify q fun e => { e with key := .agg #[.int .i64 i, .int .i64 j], val := .int .i64 (TT xs i j) }) clock) }, by simp [Instr.mapUpdate, run_underlying Try.underlying77, MapKept.run_getObj_map hb, tkKeyed.check W _ hl, h1, hq, h3, tkKeyed.stays W hl, MapKept.run_setObj_map _ hb, Result.andThen], ⟨_, _, (MapKept.heap_set hb).1, ?_⟩, ⟨rfl, rfl, rfl, by simp, fun r' _ hr => (MapKept.heap_set hb).2 r' (fun e => hr (by rw [e]))⟩⟩
    intro e he
    rcases MapFrom.mem_modify he with he | ⟨e1, _, rfl⟩
    · exact hes e he
    · exact ⟨i, j, hi0, hi, hj0, hj, rfl, rfl⟩
theorem KeepBut.of_grown_at {w w1 : World} {g : Nat} (h : w.grownBy w1 (some g)) : KeepBut w w1 g none := ⟨h.size, fun i hi hg _ => h.block i hi (fun e => hg (by injection e))⟩
/-- What stands while the game is played: s is the box of the weights. -/
structure TkInv (xs : List Int) (A0 : Option Addr) (c0 s : Nat) (w0 W : World) : Prop where
  below : Below w0.heap.size w0 W
  cw : W.cell? ⟨s, 0, none⟩ = some (.slice A0 xs.length c0)
  ck : W.cell? ⟨s + 1 + 1, 0, none⟩ = some (.map (some (s + 1)))
  cf : W.cell? ⟨s + 1 + 1 + 1, 0, none⟩ = some (.func (.func 73) #[] #[.pointer (some ⟨s, 0, none⟩), .pointer (some ⟨s + 1 + 1, 0, none⟩), .pointer (some ⟨s + 1 + 1 + 1, 0, none⟩)])
  known : KnownAt xs W (s + 1)
  base : w0.heap.size ≤ s + 1
theorem TkInv.kept {xs : List Int} {A0 : Option Addr} {c0 s : Nat} {w0 W W' : World} (h : TkInv xs A0 c0 s w0 W) (hb : Below W.heap.size W W') : TkInv xs A0 c0 s w0 W' :=
  ⟨h.below.trans (hb.mono h.below.size), (hb.cell (World.block_lt_of_cell? W _ h.cw)).trans h.cw, (hb.cell (World.block_lt_of_cell? W _ h.ck)).trans h.ck, (hb.cell (World.block_lt_of_cell? W _ h.cf)).trans h.cf, by
    obtain ⟨es, clock, h1, h2⟩ := h.known
    exact ⟨es, clock, (hb.block _ (blk_lt h1)).trans h1, h2⟩, h.base⟩
theorem TkInv.grown {xs : List Int} {A0 : Option Addr} {c0 s : Nat} {w0 W W' : World} (h : TkInv xs A0 c0 s w0 W) (hg : W.grownBy W' (some (s + 1))) (hk : KnownAt xs W' (s + 1)) : TkInv xs A0 c0 s w0 W' :=
  ⟨h.below.grown hg h.below.size (fun k e => by injection e with e; rw [← e]; exact h.base), keep_cell (KeepBut.of_grown_at hg) h.cw (by show s ≠ s + 1; omega), keep_cell (KeepBut.of_grown_at hg) h.ck (by show s + 1 + 1 ≠ s + 1; omega), keep_cell (KeepBut.of_grown_at hg) h.cf (by show s + 1 + 1 + 1 ≠ s + 1; omega), hk, h.base⟩
set_option maxHeartbeats 2000000 in
/-- The inner closure: all - what the other one gets of the bars from f to t. -/
theorem tk_own (xs : List Int) (A0 : Option Addr) (c0 s : Nat) (w0 : World) (d : Nat) (f t all : Int) (hf0 : 0 ≤ f) (hf : f ≤ 1048576) (ht : t = f + d) (hd : d ≤ 1048576) (htm : t ≤ 1048576)
    (hof : ∀ W, TkInv xs A0 c0 s w0 W → Calls Try.prog 73 #[.int .i64 f, .int .i64 t, .pointer (some ⟨s, 0, none⟩), .pointer (some ⟨s + 1 + 1, 0, none⟩), .pointer (some ⟨s + 1 + 1 + 1, 0, none⟩)] W fun e w' => e = .returned (.tuple #[.int .i64 (tk xs d f).1, .bool (tk xs d f).2]) ∧ TkInv xs A0 c0 s w0 w' ∧ KeepBut W w' (s + 1) none)
    (b9 : Nat) (hb9 : b9 ≠ s + 1) (W : World) (hI : TkInv xs A0 c0 s w0 W) (h9 : W.cell? ⟨b9, 0, none⟩ = some (.int .i64 all)) :
    Calls Try.prog 74 #[.int .i64 f, .int .i64 t, .pointer (some ⟨s + 1 + 1, 0, none⟩), .pointer (some ⟨s + 1 + 1 + 1, 0, none⟩), .pointer (some ⟨b9, 0, none⟩)] W fun e w' => e = .returned (.int .i64 (wrap64 (all - (tk xs d f).1))) ∧ TkInv xs A0 c0 s w0 w' ∧ KeepBut W w' (s + 1) none := by
  have hT : TT xs f t = (tk xs d f).1 := by
    unfold TT
    rw [ht, show (f + (d : Int) - f).toNat = d by omega]
  obtain ⟨c, b, hlook, hb⟩ := known_look hI.known (i := f) (j := t) (by omega) (by omega) (by omega) (by omega)
  have hset : ∀ W', KnownAt xs W' (s + 1) → ∃ W2, (Instr.mapUpdate 77 (.map (some (s + 1))) (.agg #[.int .i64 f, .int .i64 t]) (.int .i64 (tk xs d f).1)).run Try.prog W' = .ok () W2 ∧ KnownAt xs W2 (s + 1) ∧ W'.grownBy W2 (some (s + 1)) := by
    intro W' h
    have h2 := known_set h (i := f) (j := t) (by omega) (by omega) (by omega) (by omega)
    rw [hT] at h2
    exact h2
  have hck := hI.ck
  have hcf := hI.cf
  have HI := Aside0.mk hI
  have H9 := Aside0.mk h9
  have HOF := Aside0.mk (hof W hI)
  have HSET := Aside0.mk hset
  have HB9 := Aside0.mk hb9
  have HT := Aside0.mk hT
  have HF := Aside0.mk (show 0 ≤ f ∧ f ≤ 1048576 ∧ t = f + d from ⟨hf0, hf, ht⟩)
  clear hI hof hset hb9 hT hf0 hf ht hd htm
  obtain ⟨R, hR⟩ : ∃ R, R = tk xs d f := ⟨_, rfl⟩
  rw [← hR] at HOF HSET HT ⊢
  clear hR
  cases b with
  | true =>
    have hc : c = R.1 := (hb rfl).trans HT.out
    subst hc
    clear hb
    go_enter Try.func74, Try.ntmps74
    go_wp2
    go_ret
    exact ⟨rfl, HI.out, KeepBut.refl _ _ _⟩
  | false =>
    clear hb h9
    go_enter Try.func74, Try.ntmps74
    go_wp2_with (go_at_call 73; (with_reducible refine HOF.out.mono ?_); rintro e w' ⟨rfl, hi, hk⟩; obtain ⟨W2, hset2, hkn, hgr⟩ := HSET.out w' hi.known; have hck2 := hi.ck; have h92 := keep_cell ((KeepBut.trans hk (KeepBut.of_grown_at hgr) (.inl rfl))) H9.out HB9.out)
    go_ret
    exact ⟨rfl, hi.grown hgr hkn, KeepBut.trans hk (KeepBut.of_grown_at hgr) (.inl rfl)⟩
set_option maxHeartbeats 4000000 in
/-- The closure itself. -/
theorem tk_of (xs : List Int) (A0 : Option Addr) (c0 s : Nat) (w0 : World) (hr0 : Kd.C (Kd.int .i64) w0 A0 xs.length xs) (hc0 : xs.length ≤ c0) (hx : xs.length ≤ 1048576) (d : Nat) : ∀ (f t : Int) (W : World), 0 ≤ f → t = f + d → t ≤ xs.length → TkInv xs A0 c0 s w0 W →
    Calls Try.prog 73 #[.int .i64 f, .int .i64 t, .pointer (some ⟨s, 0, none⟩), .pointer (some ⟨s + 1 + 1, 0, none⟩), .pointer (some ⟨s + 1 + 1 + 1, 0, none⟩)] W fun e w' => e = .returned (.tuple #[.int .i64 (tk xs d f).1, .bool (tk xs d f).2]) ∧ TkInv xs A0 c0 s w0 w' ∧ KeepBut W w' (s + 1) none := by
  induction d with
  | zero =>
    intro f t W h0 ht hl hI
    have ht : f = t := by omega
    have hc : (f == t) = true := beq_iff_eq.mpr ht
    have HI := Aside0.mk hI
    clear hI ht h0 hl
    go_enter Try.func73, Try.ntmps73
    go_wp2
    go_ret2
    exact ⟨rfl, HI.out, KeepBut.refl _ _ _⟩
  | succ d ih =>
    intro f t W h0 ht hl hI
    have hc : (f == t) = false := beq_eq_false_iff_ne.mpr (by omega)
    have hcw := hI.cw
    obtain ⟨i0, hi0, _, hsz, _⟩ := info_parts info3
    have c5 : decide (0 ≤ f) = true := decide_eq_true h0
    have c6 : f ≤ t := by omega
    obtain ⟨A12, hcut, hA12, hC12⟩ := print_mid_of (P := Try.prog) (Value.int .i64) 0 22 3 .i64 .i64 Try.underlying22 hi0 hsz A0 c0 xs f t h0 c6 hl hc0
    have hs2 : ∃ k, impl_sum.f k ((xs.take t.toNat).drop f.toNat) = some (seg xs f t) := sum_some _ (by rw [List.length_drop, List.length_take]; omega)
    obtain ⟨k, hk⟩ := hs2
    have hlen : ((xs.take t.toNat).drop f.toNat).length = t.toNat - f.toNat := by rw [List.length_drop, List.length_take]; omega
    have hsum := impl_sum.calls k A12 (c0 - f.toNat) _ _ W (Kd.C_of_reads (h1 := fun _ => rfl) (hA12 _ (Kd.reads_of_C (d := 0) (Kd.C_below hr0 hI.below)))) hC12 hk
    rw [hlen] at hsum
    have e1 : wrap64 (f + 1) = f + 1 := by unfold wrap64; omega
    have e2 : wrap64 (t - 1) = t - 1 := by unfold wrap64; omega
    have hown1 := fun (b9 : Nat) (hb9 : b9 ≠ s + 1) (W' : World) (hI' : TkInv xs A0 c0 s w0 W') (h9 : W'.cell? ⟨b9, 0, none⟩ = some (.int .i64 (seg xs f t))) =>
      tk_own xs A0 c0 s w0 d (f + 1) t (seg xs f t) (by omega) (by omega) (by omega) (by omega) (by omega) (fun W2 h2 => ih (f + 1) t W2 (by omega) (by omega) hl h2) b9 hb9 W' hI' h9
    have hown2 := fun (b9 : Nat) (hb9 : b9 ≠ s + 1) (W' : World) (hI' : TkInv xs A0 c0 s w0 W') (h9 : W'.cell? ⟨b9, 0, none⟩ = some (.int .i64 (seg xs f t))) =>
      tk_own xs A0 c0 s w0 d f (t - 1) (seg xs f t) h0 (by omega) (by omega) (by omega) (by omega) (fun W2 h2 => ih f (t - 1) W2 h0 (by omega) (by omega) h2) b9 hb9 W' hI' h9
    have htk : tk xs (d + 1) f = (mx (wrap64 (seg xs f t - (tk xs d (f + 1)).1)) (wrap64 (seg xs f t - (tk xs d f).1)), decide (wrap64 (seg xs f t - (tk xs d f).1) ≤ wrap64 (seg xs f t - (tk xs d (f + 1)).1))) := by
      rw [ht]
      rfl
    have HI := Aside0.mk hI
    have HSUM := Aside0.mk hsum
    have HO1 := Aside0.mk hown1
    have HO2 := Aside0.mk hown2
    have HTK := Aside0.mk htk
    obtain ⟨S, hS⟩ : ∃ S, S = seg xs f t := ⟨_, rfl⟩
    obtain ⟨r1, hr1⟩ : ∃ r1, r1 = (tk xs d (f + 1)).1 := ⟨_, rfl⟩
    obtain ⟨r2, hr2⟩ : ∃ r2, r2 = (tk xs d f).1 := ⟨_, rfl⟩
    rw [← hS] at HSUM HO1 HO2 HTK
    rw [← hr1] at HO1 HTK
    rw [← hr2] at HO2 HTK
    have c5b := eq_true h0
    have c6b := eq_true c6
    have c7b := eq_true hl
    clear hI hsum hown1 hown2 htk hS hr1 hr2 ih e1 e2 hr0 hk hlen hA12 hC12 hi0 hsz ht
    go_enter Try.func73, Try.ntmps73
    go_wp2_with (first
      | (go_at_call 57; (with_reducible refine HSUM.out.mono ?_); rintro e w' ⟨rfl, hd⟩
         have hne := Aside0.mk (show w'.heap.size ≠ s + 1 from by obtain ⟨es, clock, h1, _⟩ := (HI.out.kept hd.below).known; have := blk_lt h1; omega)
         have hI1 := Aside0.mk ((HI.out.kept hd.below).kept ((Below.refl w'.heap.size w').alloc (Nat.le_refl _) (.cells #[.int .i64 S] 3)))
         have h91 := Aside0.mk (show (w'.alloc (.cells #[.int .i64 S] 3)).cell? ⟨w'.heap.size, 0, none⟩ = some (.int .i64 S) from by simp)
         have hK1 := Aside0.mk (keep_alloc (KeepBut.of_below hd.below (s + 1) none) (.cells #[.int .i64 S] 3))
         clear hd)
      | (go_at_call 74; (with_reducible refine (HO1.out _ hne.out _ hI1.out h91.out).mono ?_); rintro e w1 ⟨rfl, hi1, hk1⟩
         have h92 := Aside0.mk (keep_cell hk1 h91.out hne.out)
         have hI2 := Aside0.mk hi1
         have hK2 := Aside0.mk (KeepBut.trans hK1.out hk1 (.inl rfl))
         clear hi1 hk1 h91 hI1 hK1)
      | (go_at_call 74; (with_reducible refine (HO2.out _ hne.out _ hI2.out h92.out).mono ?_); rintro e w2 ⟨rfl, hi2, hk2⟩))
    · go_ret2
      refine ⟨?_, hi2, KeepBut.trans hK2.out hk2 (.inl rfl)⟩
      rw [HTK.out]
      unfold mx
      split
      · rfl
      · exfalso; omega
    · go_ret2
      refine ⟨?_, hi2, KeepBut.trans hK2.out hk2 (.inl rfl)⟩
      rw [HTK.out]
      unfold mx
      split
      · exfalso; omega
      · rw [decide_eq_true (by omega)]
        rfl
theorem cell_new (W : World) (v : Value) (t : TypeId) (n : Nat) (hn : n = W.heap.size) : (W.alloc (.cells #[v] t)).cell? ⟨n, 0, none⟩ = some v := by
  subst hn
  simp
theorem run_store_func (P : Program) (w : World) (a : Addr) (m : Mode) (f : Fn) (r cs : Array Value) : (store a (.func f r cs) m).run P w = stored P w a (.func f r cs) m := run_store P w a _ m rfl
attribute [local go_sem] run_store_func
set_option maxHeartbeats 2000000 in
theorem tk_taken (xs : List Int) (A0 : Option Addr) (c0 : Nat) (w : World) :
    Calls Try.prog 56 #[.slice A0 xs.length c0] w fun e w' => e = .returned (.func (.func 73) #[] #[.pointer (some ⟨w.heap.size, 0, none⟩), .pointer (some ⟨w.heap.size + 1 + 1, 0, none⟩), .pointer (some ⟨w.heap.size + 1 + 1 + 1, 0, none⟩)]) ∧ TkInv xs A0 c0 w.heap.size w w' := by
  have hmk : ∀ W : World, (Instr.makeMap 77 none).run Try.prog W = .ok (.map (some W.heap.size)) (W.alloc (.map #[] 0)) := fun W => run_makeMap _ W
  go_enter Try.func56, Try.ntmps56
  go_wp2
  go_ret
  refine ⟨rfl, ?_⟩
  have hs1 : (w.alloc (.cells #[.slice A0 xs.length c0] 22)).heap.size = w.heap.size + 1 := by simp
  have hm1 : ((w.alloc (.cells #[.slice A0 xs.length c0] 22)).alloc (.map #[] 0)).heap[w.heap.size + 1]? = some (.map #[] 0) := by
    have := (MapKept.heap_alloc (w.alloc (.cells #[.slice A0 xs.length c0] 22)) (.map #[] 0)).1
    rw [hs1] at this
    exact this
  refine ⟨((((Below.refl _ w).alloc (Nat.le_refl _) _).alloc (by simp) _).alloc (by simp <;> omega) _).alloc (by simp <;> omega) _, ?_, ?_, ?_, ⟨#[], 0, ?_, by simp⟩, by omega⟩
  · have h1 : (w.alloc (.cells #[.slice A0 xs.length c0] 22)).cell? ⟨w.heap.size, 0, none⟩ = some (.slice A0 xs.length c0) := by simp
    exact ((((Below.refl _ _).alloc (Nat.le_refl _) _).alloc (by simp) _).alloc (by simp <;> omega) _ |>.cell (World.block_lt_of_cell? _ _ h1)).trans h1
  · have hs2 : ((w.alloc (.cells #[.slice A0 xs.length c0] 22)).alloc (.map #[] 0)).heap.size = w.heap.size + 1 + 1 := by simp
    have h1 : (((w.alloc (.cells #[.slice A0 xs.length c0] 22)).alloc (.map #[] 0)).alloc (.cells #[.map (some (w.heap.size + 1))] 77)).cell? ⟨w.heap.size + 1 + 1, 0, none⟩ = some (.map (some (w.heap.size + 1))) := cell_new _ _ _ _ hs2.symm
    exact (((Below.refl _ _).alloc (Nat.le_refl _) _).cell (World.block_lt_of_cell? _ _ h1)).trans h1
  · have hs3 : (((w.alloc (.cells #[.slice A0 xs.length c0] 22)).alloc (.map #[] 0)).alloc (.cells #[.map (some (w.heap.size + 1))] 77)).heap.size = w.heap.size + 1 + 1 + 1 := by simp
    exact cell_new _ _ _ _ hs3.symm
  exact (((Below.refl _ _).alloc (Nat.le_refl _) _).alloc (by simp) _).block _ (blk_lt hm1) |>.trans hm1
/-- What both have in the end. -/
def impl_BestTake.f (l0 : List Int) : Option (Int × Int × Bool) :=
  if l0.length ≤ 1048576 then ((impl_AreWeights.f l0).bind fun t => if t = true then some ((tk l0 l0.length 0).1, wrap64 (sumW l0 0 - (tk l0 l0.length 0).1), true) else some (0, 0, false)) else none
set_option maxHeartbeats 2000000 in
theorem impl_BestTake.calls (A0 : Option Addr) (c0 : Nat) (l0 : List Int) (r1 : Int) (r2 : Int) (r3 : Bool) (w : World) (hr0 : Kd.C (Kd.int .i64) w A0 l0.length l0) (hc0 : l0.length ≤ c0) (h : impl_BestTake.f l0 = some (r1, r2, r3)) :
    Calls Try.prog 27 #[.slice A0 l0.length c0] w fun e w' => e = .returned (.tuple #[.int .i64 r1, .int .i64 r2, .bool r3]) ∧ Below w.heap.size w w' := by
  unfold impl_BestTake.f at h
  by_cases hx : l0.length ≤ 1048576
  · rw [if_pos hx] at h
    obtain ⟨t, ht, hx2⟩ := Option.bind_eq_some_iff.mp h
    clear h
    have HC := Aside0.mk (impl_AreWeights.calls A0 c0 l0 t w hr0 hc0 ht)
    clear ht
    cases t with
    | false =>
      simp at hx2
      obtain ⟨rfl, rfl, rfl⟩ := hx2
      clear hr0
      go_enter Try.func27, Try.ntmps27
      go_wp2_with (go_at_call 17; (with_reducible refine HC.out.mono ?_); rintro e w' ⟨rfl, hb⟩)
      go_ret3
      exact ⟨rfl, hb⟩
    | true =>
      obtain ⟨R, hR⟩ : ∃ R, R = tk l0 l0.length 0 := ⟨_, rfl⟩
      obtain ⟨S, hS⟩ : ∃ S, S = sumW l0 0 := ⟨_, rfl⟩
      simp only [if_true, ← hR, ← hS, Option.some.injEq, Prod.mk.injEq] at hx2
      obtain ⟨rfl, rfl, rfl⟩ := hx2
      obtain ⟨k, hk⟩ := sum_some l0 hx
      rw [← hS] at hk
      have HOF := Aside0.mk (fun (W1 W : World) (hb : Below w.heap.size w W1) (hI : TkInv l0 A0 c0 W1.heap.size W1 W) => tk_of l0 A0 c0 W1.heap.size W1 (Kd.C_below hr0 hb) hc0 hx l0.length 0 (l0.length : Int) W (by omega) (by omega) (by omega) hI)
      rw [← hR] at HOF
      have HSUM := Aside0.mk (fun (W : World) (hb : Below w.heap.size w W) => impl_sum.calls k A0 c0 l0 S W (Kd.C_below hr0 hb) hc0 hk)
      clear hr0 hk hR hS
      go_enter Try.func27, Try.ntmps27
      go_wp2_with (first
        | (go_at_call 17; (with_reducible refine HC.out.mono ?_); rintro e w1 ⟨rfl, hb⟩
           have HB1 := Aside0.mk hb
           clear hb)
        | (go_at_call 56; (with_reducible refine (tk_taken l0 A0 c0 _).mono ?_); rintro e w2 ⟨rfl, hi⟩
           have HI := Aside0.mk hi
           clear hi)
        | (go_at_call 73; (with_reducible refine (HOF.out _ _ HB1.out HI.out).mono ?_); rintro e w3 ⟨rfl, hi2, _⟩
           have HB3 := Aside0.mk (HB1.out.trans (hi2.below.mono HB1.out.size))
           clear hi2)
        | (go_at_call 57; (with_reducible refine (HSUM.out _ HB3.out).mono ?_); rintro e w4 ⟨rfl, hd⟩))
      go_ret3
      exact ⟨rfl, HB3.out.trans (hd.below.mono HB3.out.size)⟩
  · rw [if_neg hx] at h
    cases h

/-! ### impl_FirstTakes: function 31 -/
theorem TkInv.row {xs : List Int} {A0 : Option Addr} {c0 s : Nat} {w0 W W' : World} {row : Option Nat} (h : TkInv xs A0 c0 s w0 W) (hg : W.grownBy W' row) (hr : ∀ k, row = some k → s + 1 + 1 + 1 < k) : TkInv xs A0 c0 s w0 W' := by
  have hne : ∀ b, b ≤ s + 1 + 1 + 1 → some b ≠ row := fun b hb e => by have := hr b e.symm; omega
  have l1 := World.block_lt_of_cell? W _ h.cw
  have l2 := World.block_lt_of_cell? W _ h.ck
  have l3 := World.block_lt_of_cell? W _ h.cf
  refine ⟨h.below.grown hg h.below.size (fun k e => by have := hr k e; have := h.base; omega), (World.cell?_of_block (hg.block _ l1 (hne _ (by show s ≤ _; omega)))).trans h.cw, (World.cell?_of_block (hg.block _ l2 (hne _ (by show s + 1 + 1 ≤ _; omega)))).trans h.ck, (World.cell?_of_block (hg.block _ l3 (hne _ (Nat.le_refl _)))).trans h.cf, ?_, h.base⟩
  obtain ⟨es, clock, h1, h2⟩ := h.known
  exact ⟨es, clock, (hg.block _ (blk_lt h1) (hne _ (by omega))).trans h1, h2⟩
theorem R_keep_base {α : Type} {d : Kd α} {e : Nat} {w w1 : World} {base g : Nat} {ok : Nat → Prop} {v : Value} {xs : List α} (h : d.R e w base ok v xs) (hk : KeepBut w w1 g none) (hg : g < base) : d.R e w1 base ok v xs :=
  Kd.R_mono (Kd.R_step (Kd.R_bound h) (fun k ho hlt => hk.2 k hlt (by have := ho.2.1; omega) (by simp))) (fun _ h => h.1)
/-- The signs of the game from the bars f to t on. -/
def ft (xs : List Int) : Nat → Int → Int → List Int → List Int
  | 0, _, _, o => o
  | n + 1, f, t, o => if f < t then (if (tk xs (t - f).toNat f).2 = true then ft xs n (f + 1) t (o ++ [102]) else ft xs n f (t - 1) (o ++ [108])) else o
def impl_FirstTakes.f (l0 : List Int) : Option (ByteArray × Bool) :=
  if l0.length ≤ 1048576 then ((impl_AreWeights.f l0).bind fun t => if t = true then some (strOfNums (ft l0 (l0.length + 1) 0 (l0.length : Int) []), true) else some (⟨#[]⟩, false)) else none
set_option maxHeartbeats 4000000 in
set_option maxRecDepth 100000 in
theorem impl_FirstTakes.calls (A0 : Option Addr) (c0 : Nat) (l0 : List Int) (r1 : ByteArray) (r2 : Bool) (w : World) (hr0 : Kd.C (Kd.int .i64) w A0 l0.length l0) (hc0 : l0.length ≤ c0) (h : impl_FirstTakes.f l0 = some (r1, r2)) :
    Calls Try.prog 31 #[.slice A0 l0.length c0] w fun e w' => e = .returned (.tuple #[.string r1, .bool r2]) ∧ Below w.heap.size w w' := by
  unfold impl_FirstTakes.f at h
  by_cases hx : l0.length ≤ 1048576
  · rw [if_pos hx] at h
    obtain ⟨t, ht, hx2⟩ := Option.bind_eq_some_iff.mp h
    clear h
    have HC := Aside0.mk (impl_AreWeights.calls A0 c0 l0 t w hr0 hc0 ht)
    clear ht
    cases t with
    | false =>
      simp at hx2
      obtain ⟨rfl, rfl⟩ := hx2
      clear hr0
      go_enter Try.func31, Try.ntmps31
      go_wp2_with (go_at_call 17; (with_reducible refine HC.out.mono ?_); rintro e w' ⟨rfl, hb⟩)
      go_ret2
      exact ⟨rfl, hb⟩
    | true =>
      obtain ⟨R, hR⟩ : ∃ R, R = ft l0 (l0.length + 1) 0 (l0.length : Int) [] := ⟨_, rfl⟩
      simp only [if_true, ← hR, Option.some.injEq, Prod.mk.injEq] at hx2
      obtain ⟨rfl, rfl⟩ := hx2
      have HRR := Aside0.mk hR
      have HOF := Aside0.mk (fun (W1 W : World) (f t : Int) (hb : Below w.heap.size w W1) (h0 : 0 ≤ f) (h1 : f ≤ t) (h2 : t ≤ (l0.length : Int)) (hI : TkInv l0 A0 c0 W1.heap.size W1 W) => tk_of l0 A0 c0 W1.heap.size W1 (Kd.C_below hr0 hb) hc0 hx (t - f).toNat f t W h0 (by omega) h2 hI)
      have HX := Aside0.mk hx
      have hcap := hr0.2.1
      clear hr0 hR hx
      go_enter Try.func31, Try.ntmps31
      go_wp2_with (first
        | (go_at_call 17; (with_reducible refine HC.out.mono ?_); rintro e w1 ⟨rfl, hb⟩
           have HB1 := Aside0.mk hb
           clear hb)
        | (go_at_call 56; (with_reducible refine (tk_taken l0 A0 c0 _).mono ?_); rintro e w2 ⟨rfl, hi⟩
           have HI := Aside0.mk hi
           clear hi))
      have hsb : w1.heap.size + 1 + 1 + 1 < w2.heap.size := World.block_lt_of_cell? w2 _ HI.out.cf
      have HSB0 := Aside0.mk hsb
      have HI0 := Aside0.mk (HI.out.kept ((Below.refl w2.heap.size w2).alloc (Nat.le_refl _) (.cells #[] 5)))
      obtain ⟨B, hB⟩ : ∃ B, B = w2.heap.size := ⟨_, rfl⟩
      have HO0 : Aside0 (Kd.R (Kd.int .u8) 5 (w2.alloc (.cells #[] 5)) B (fun _ => True) (.slice (some ⟨w2.heap.size, 0, none⟩) 0 0) []) := ⟨by
        rw [hB]
        exact Kd.R_of_own ⟨rfl, .inr ⟨w2.heap.size, 0, #[], rfl, Nat.le_refl _, blk_new _ _, Nat.le_refl _, by unfold maxLen; omega, rfl, rfl⟩⟩ (fun _ _ => trivial)⟩
      have HW0 := Aside0.mk (show B ≤ (w2.alloc (.cells #[] 5)).heap.size by rw [hB]; simp)
      have HSB := Aside0.mk (show w1.heap.size + 1 + 1 + 1 < B by rw [hB]; exact hsb)
      clear hB hsb HSB0 HI
      go_loopg [5, 6, 7] (l0.length + 1) (fun gg v5 v6 v7 wr => ∃ (f t : Int) (o : List Int), v6 = .int .i64 f ∧ v7 = .int .i64 t ∧ Aside0 (0 ≤ f ∧ f ≤ t ∧ t ≤ (l0.length : Int) ∧ t - f < (gg : Int) ∧ (o.length : Int) + (t - f) ≤ 1048576) ∧ Aside0 (ft l0 gg f t o = R) ∧ Aside0 (Kd.R (Kd.int .u8) 5 wr B (fun _ => True) v5 o) ∧ Aside0 (TkInv l0 A0 c0 w1.heap.size w1 wr) ∧ Aside0 (B ≤ wr.heap.size))
      case atStart => exact ⟨0, (l0.length : Int), [], rfl, rfl, ⟨by have := HX.out; simp only [List.length_nil]; omega⟩, ⟨HRR.out.symm⟩, HO0, HI0, HW0⟩
      case round =>
        obtain ⟨f, t, o, rfl, rfl, HS, HL, HO, HI, HWS⟩ := hrel
        cases gk with
        | zero => exact absurd HS.out (by omega)
        | succ gk =>
          by_cases cft : f < t
          · have h := HL.out
            simp only [ft] at h
            rw [if_pos cft] at h
            have hcall := HOF.out w1 wr f t HB1.out HS.out.1 HS.out.2.1 HS.out.2.2.1 HI.out
            have c0b : decide (f < t) = true := decide_eq_true cft
            have HFT := Aside0.mk cft
            have hf0 : 0 ≤ f := HS.out.1
            have ht0 : t ≤ 1048576 := by have := HS.out; have := HX.out; omega
            have HWW := Aside0.mk (show wrap64 (f + 1) = f + 1 ∧ wrap64 (t - 1) = t - 1 by have := HS.out; constructor <;> (unfold wrap64; omega))
            clear cft HL
            by_cases hb : (tk l0 (t - f).toNat f).2 = true
            · have h2 := h
              rw [if_pos hb] at h2
              have HL := Aside0.mk h2
              have hbb : (tk l0 (t - f).toNat f).2 = true := hb
              rw [hbb] at hcall
              have HCALL := Aside0.mk hcall
              obtain ⟨q, hq⟩ : ∃ q, q = (tk l0 (t - f).toNat f).1 := ⟨_, rfl⟩
              rw [← hq] at HCALL
              clear h h2 hbb hb hq hcall
              go_wp2_with (first
                | (go_at_call 73; (with_reducible refine HCALL.out.mono ?_); rintro e w3 ⟨rfl, hi3, hk3⟩
                   have HO3 := Aside0.mk (R_keep_base HO.out hk3 (by have := HSB.out; omega))
                   have HI3 := Aside0.mk hi3
                   have HS3 := Aside0.mk (Nat.le_trans HWS.out hk3.1)
                   clear hi3 hk3 HO)
                | ((with_reducible refine gate_builtin (b := .append) (xs := #[.tmp 29, .tmp 30]) rfl ?_); at_builtin; refine Kd.R_append (Kd.int .u8) (w0 := w3) B rfl (.tmp 29) (.tmp 30) 64 5 (.int .u8 0) 1 rfl Try.underlying64 info5 rfl (by decide) (by omega) u5 o 102 [.int .u8 102] (fun _ => True) (fun _ => False) rfl rfl ?aP (fun _ hk => hk.elim) ?aF ?aO ?aB ?aS ?aL ?_; (case aP => exact rfl); (case aB => exact Below.refl B _); (case aF => exact (fun _ _ => trivial)); (case aO => exact HO3.out); (case aS => exact HS3.out); (case aL => have := HS.out; omega); intro v108 w9 ho hb hg hat; have hrow := Aside0.mk (HI3.out.row hg (fun k e => by have h3 := ((Kd.R_bound HO3.out).1 k e).2.1; have := HSB.out; omega)); have HO4 := Aside0.mk ho; have HS4 := Aside0.mk (Nat.le_trans HS3.out hg.size); clear ho hb hg hat HO3 HI3))
              go_roundg gk
              case measure => omega
              case rel => exact ⟨f + 1, t, o ++ [102], by first | rw [HWW.out.1] | rfl, rfl, ⟨by have := HS.out; have := HFT.out; simp only [List.length_append, List.length_cons, List.length_nil]; omega⟩, HL, HO4, hrow, HS4⟩
            · have h2 := h
              rw [if_neg hb] at h2
              have HL := Aside0.mk h2
              have hbb : (tk l0 (t - f).toNat f).2 = false := (by simpa using hb)
              rw [hbb] at hcall
              have HCALL := Aside0.mk hcall
              obtain ⟨q, hq⟩ : ∃ q, q = (tk l0 (t - f).toNat f).1 := ⟨_, rfl⟩
              rw [← hq] at HCALL
              clear h h2 hbb hb hq hcall
              go_wp2_with (first
                | (go_at_call 73; (with_reducible refine HCALL.out.mono ?_); rintro e w3 ⟨rfl, hi3, hk3⟩
                   have HO3 := Aside0.mk (R_keep_base HO.out hk3 (by have := HSB.out; omega))
                   have HI3 := Aside0.mk hi3
                   have HS3 := Aside0.mk (Nat.le_trans HWS.out hk3.1)
                   clear hi3 hk3 HO)
                | ((with_reducible refine gate_builtin (b := .append) (xs := #[.tmp 34, .tmp 35]) rfl ?_); at_builtin; refine Kd.R_append (Kd.int .u8) (w0 := w3) B rfl (.tmp 34) (.tmp 35) 64 5 (.int .u8 0) 1 rfl Try.underlying64 info5 rfl (by decide) (by omega) u5 o 108 [.int .u8 108] (fun _ => True) (fun _ => False) rfl rfl ?aP (fun _ hk => hk.elim) ?aF ?aO ?aB ?aS ?aL ?_; (case aP => exact rfl); (case aB => exact Below.refl B _); (case aF => exact (fun _ _ => trivial)); (case aO => exact HO3.out); (case aS => exact HS3.out); (case aL => have := HS.out; omega); intro v108 w9 ho hb hg hat; have hrow := Aside0.mk (HI3.out.row hg (fun k e => by have h3 := ((Kd.R_bound HO3.out).1 k e).2.1; have := HSB.out; omega)); have HO4 := Aside0.mk ho; have HS4 := Aside0.mk (Nat.le_trans HS3.out hg.size); clear ho hb hg hat HO3 HI3))
              go_roundg gk
              case measure => omega
              case rel => exact ⟨f, t - 1, o ++ [108], rfl, by first | rw [HWW.out.2] | rfl, ⟨by have := HS.out; have := HFT.out; simp only [List.length_append, List.length_cons, List.length_nil]; omega⟩, HL, HO4, hrow, HS4⟩
          · have h := HL.out
            simp only [ft] at h
            rw [if_neg cft] at h
            obtain rfl := h
            have c0b : decide (f < t) = false := decide_eq_false cft
            have hcv22 := own_string (P := Try.prog) Try.underlying64 Try.underlying5 Try.underlying9 (Kd.own_of_R HO.out)
            clear cft HL
            go_wp2
            go_ret2
            exact ⟨rfl, HB1.out.trans (HI.out.below.mono HB1.out.size)⟩
  · rw [if_neg hx] at h
    cases h

end Go.Proofs.Ytnppcpjkjepfeaa.U
