-- Laid by a program of this session (wip/pp.py) over the seat's translation, with its own texts for some functions.
import Derived.Test.YtghfhcmjnpjgdaaDoorS0
import Derived.Test.YtghfhcmjnpjgdaaDoorS2
namespace Go.Proofs.YtghfhcmjnpjgdaaDoor.S
open Go.RowKit Go.Proofs.YtghfhcmjnpjgdaaDoorW.PrintWords Go.Proofs.YtghfhcmjnpjgdaaDoorW.PrintLast Go.Proofs.YtghfhcmjnpjgdaaDoorW.PrintMore
attribute [local go_sem] max2_int min2_int max_two min_two max_three min_three max_four min_four   -- for this text's walks alone
set_option linter.unusedVariables false
set_option linter.unusedSimpArgs false

/-! ### impl_isTested: function 41 -/
def impl_isTested.f (a0 : ByteArray) : Option (Bool) := (impl_within.f (a0.size : Int) 1 60).bind fun t155 => (if t155 = true then ((strings_Trim.f a0 (⟨#[111, 120]⟩ : ByteArray)).bind fun t156 => (some (t156.toList == ([] : List UInt8)))) else (some false))
set_option maxHeartbeats 8000000 in
set_option maxRecDepth 100000 in
theorem impl_isTested.calls (a0 : ByteArray) (r : Bool) (w : World) (h : impl_isTested.f a0 = some r) :
    Calls Tryd.prog 41 #[.string a0] w fun e w' => e = .returned (.bool r) ∧ Below w.heap.size w w' := by
  have HB := Aside0.mk (Below.refl w.heap.size w)
  have H : ((impl_within.f (a0.size : Int) 1 60).bind fun t155 => (if t155 = true then ((strings_Trim.f a0 (⟨#[111, 120]⟩ : ByteArray)).bind fun t156 => (some (t156.toList == ([] : List UInt8)))) else (some false))) = some r := h
  clear h
  replace H := Option.bind_eq_some_iff.mp H
  obtain ⟨t155, A20, H⟩ := H
  replace H : (if t155 = true then ((strings_Trim.f a0 (⟨#[111, 120]⟩ : ByteArray)).bind fun t156 => (some (t156.toList == ([] : List UInt8)))) else (some false)) = some r := H
  have A2 := Aside0.mk A20
  clear A20
  by_cases c3 : t155 = true
  · subst c3
    have H1 : ((strings_Trim.f a0 (⟨#[111, 120]⟩ : ByteArray)).bind fun t156 => (some (t156.toList == ([] : List UInt8)))) = some r := by rw [if_pos rfl] at H; exact H
    clear H
    have H := H1
    clear H1
    replace H := Option.bind_eq_some_iff.mp H
    obtain ⟨t156, A40, H⟩ := H
    replace H : (some (t156.toList == ([] : List UInt8))) = some r := H
    have A4 := Aside0.mk A40
    clear A40
    obtain rfl := Option.some.inj H
    go_enter Tryd.func41, Tryd.ntmps41
    go_wp2_with (first | ((with_reducible refine gate_callee (f := 42) rfl ?_); refine goesL_ (some 5) rfl rfl Tryd.func42 (by kernel_rfl) rfl #[.int .i64 (a0.size : Int), .int .i64 1, .int .i64 60] rfl (by (try simp only [List.map_toArray, List.map_cons, List.map_nil]); first | done | rfl | (simp only [List.length_drop, List.length_take]; rfl)) ?_; (with_reducible refine (impl_within.calls (a0.size : Int) 1 60 true _ A2.out).mono ?_); rintro e w' ⟨rfl, ⟨nd, rfl⟩⟩; refine ⟨_, rfl, ?_⟩) | (go_at_call 66; (with_reducible refine (strings_Trim.calls a0 (⟨#[111, 120]⟩ : ByteArray) t156 _ A4.out).mono ?_); rintro e w5 ⟨rfl, hb⟩; have n0_ := Aside0.mk (below_step (by repeat (first | (with_reducible first | exact HB.out | apply below_alloc | apply pw_below_drewN | apply below_drew1) | exact HB.out)) hb); clear HB; have HB := n0_; clear n0_; (try clear hb); (try clear hb2); (try clear hk); (try clear hi)))
    go_ret
    exact ⟨by first | rfl | (simp [errW_none, errW_some] <;> rfl) | (simp [*, errW_none, errW_some] <;> rfl), by repeat (first | (with_reducible first | exact HB.out | apply below_alloc | apply pw_below_drewN | apply below_drew1) | exact HB.out)⟩
  · replace c3 := Bool.eq_false_iff.mpr c3
    subst c3
    have H1 : (some false) = some r := by rw [if_neg (show ¬ (false = true) by decide)] at H; exact H
    clear H
    have H := H1
    clear H1
    obtain rfl := Option.some.inj H
    go_enter Tryd.func41, Tryd.ntmps41
    go_wp2_with (first | ((with_reducible refine gate_callee (f := 42) rfl ?_); refine goesL_ (some 5) rfl rfl Tryd.func42 (by kernel_rfl) rfl #[.int .i64 (a0.size : Int), .int .i64 1, .int .i64 60] rfl (by (try simp only [List.map_toArray, List.map_cons, List.map_nil]); first | done | rfl | (simp only [List.length_drop, List.length_take]; rfl)) ?_; (with_reducible refine (impl_within.calls (a0.size : Int) 1 60 false _ A2.out).mono ?_); rintro e w' ⟨rfl, ⟨nd, rfl⟩⟩; refine ⟨_, rfl, ?_⟩))
    go_ret
    exact ⟨by first | rfl | (simp [errW_none, errW_some] <;> rfl) | (simp [*, errW_none, errW_some] <;> rfl), by repeat (first | (with_reducible first | exact HB.out | apply below_alloc | apply pw_below_drewN | apply below_drew1) | exact HB.out)⟩

/-! ### strings_Contains: function 49 -/
/-! strings.Contains at one byte: the library's own proof, laid at this program's numbers. -/
def containsLays_ren : Go.Shelf.Ren := ⟨fun | 144 => 49 | 143 => 68 | 219 => 88 | 217 => 98 | 225 => 99 | 224 => 100 | 267 => 101 | 266 => 109 | 314 => 110 | n => n, fun | 9 => 9 | 4 => 4 | 3 => 3 | 5 => 5 | 46 => 103 | 146 => 110 | 51 => 109 | n => n, fun | 1 => 0 | n => n⟩
theorem containsLays : Go.Proofs.Lays.n144 Tryd.prog containsLays_ren := {
  mixed := by kernel_rfl
  f143 := Tryd.func68.trans (congrArg some (by kernel_rfl))
  f144 := Tryd.func49.trans (congrArg some (by kernel_rfl))
  f217 := Tryd.func98.trans (congrArg some (by kernel_rfl))
  f219 := Tryd.func88.trans (congrArg some (by kernel_rfl))
  f224 := Tryd.func100.trans (congrArg some (by kernel_rfl))
  f225 := Tryd.func99.trans (congrArg some (by kernel_rfl))
  f266 := Tryd.func109.trans (congrArg some (by kernel_rfl))
  f267 := Tryd.func101.trans (congrArg some (by kernel_rfl))
  f314 := Tryd.func110.trans (congrArg some (by kernel_rfl))
  t3 := Tryd.underlying3
  a3 := Tryd.isAgg3
  z3 := Tryd.sizeOf3
  v3 := Tryd.zeroValue3
  t4 := Tryd.underlying4
  a4 := Tryd.isAgg4
  z4 := Tryd.sizeOf4
  v4 := Tryd.zeroValue4
  t5 := Tryd.underlying5
  a5 := Tryd.isAgg5
  z5 := Tryd.sizeOf5
  v5 := Tryd.zeroValue5
  t9 := Tryd.underlying9
  a9 := Tryd.isAgg9
  z9 := Tryd.sizeOf9
  v9 := Tryd.zeroValue9
  t46 := Tryd.underlying103
  a46 := Tryd.isAgg103
  z46 := Tryd.sizeOf103
  v46 := Tryd.zeroValue103
  t51 := Tryd.underlying109
  a51 := Tryd.isAgg109
  z51 := Tryd.sizeOf109
  v51 := Tryd.zeroValue109
  t146 := Tryd.underlying110
  a146 := Tryd.isAgg110
  z146 := Tryd.sizeOf110
  v146 := Tryd.zeroValue110
  g1 := by kernel_rfl }
def strings_Contains.f (l0 l1 : ByteArray) : Option Bool :=
  if l1.size = 1 then some (decide (0 ≤ Lib.indexByte l0.data.toList (l1.data.toList.getD 0 0))) else none
theorem strings_Contains.calls (l0 l1 : ByteArray) (r : Bool) (w : World) (h : strings_Contains.f l0 l1 = some r) :
    Calls Tryd.prog 49 #[.string l0, .string l1] w fun e w' => e = .returned (.bool r) ∧ w' = w := by
  unfold strings_Contains.f at h
  split at h
  · rename_i g
    obtain rfl := Option.some.inj h
    obtain ⟨c, rfl⟩ : ∃ c : UInt8, l1 = ⟨#[c]⟩ := by
      obtain ⟨⟨l⟩⟩ := l1
      match l, g with
      | [c], _ => exact ⟨c, rfl⟩
    exact Any.strings_Contains_one containsLays l0 c w
  · cases h

/-! ### impl_RowsAndColumns: function 19 -/
/-- What is asked of a predicate on texts: in every world in which what lay in w lies unturned, the call answers p at each text of a list. -/
def PredStr (g : Nat) (lb : Array Value) (p : ByteArray → Bool) (xs : List ByteArray) (w : World) : Prop :=
  ∀ (W : World) (x : ByteArray), x ∈ xs → Below w.heap.size w W → Calls Tryd.prog g (#[.string x] ++ lb) W fun e w' => e = .returned (.bool (p x)) ∧ Below w.heap.size w w'
def idxOfS (p : ByteArray → Bool) (xs : List ByteArray) : Int := if xs.any p then (xs.findIdx p : Int) else -1
theorem rdS_get (xs : List ByteArray) (j : Nat) (hj : j < xs.length) : rdOf ByteArray.empty xs (j : Int) = xs[j] := by
  simp [rdOf, List.getD_eq_getElem?_getD, List.getElem?_eq_getElem hj]
theorem idxOfS_hit (p : ByteArray → Bool) (xs : List ByteArray) (k : Nat) (hk : k < xs.length) (h : p (rdOf ByteArray.empty xs k) = true) (hb : ∀ j : Nat, j < k → p (rdOf ByteArray.empty xs j) = false) : idxOfS p xs = k := by
  have h1 : xs.findIdx p = k := by
    rw [List.findIdx_eq hk]
    exact ⟨by rw [← rdS_get xs k hk]; exact h, fun j hj => by rw [← rdS_get xs j (by omega)]; exact hb j hj⟩
  have h2 : xs.any p = true := by
    rw [List.any_eq_true]
    exact ⟨xs[k], List.getElem_mem hk, by rw [← rdS_get xs k hk]; exact h⟩
  unfold idxOfS
  rw [if_pos h2, h1]
theorem idxOfS_miss (p : ByteArray → Bool) (xs : List ByteArray) (hb : ∀ j : Nat, j < xs.length → p (rdOf ByteArray.empty xs j) = false) : xs.any p = false ∧ idxOfS p xs = -1 := by
  have h2 : xs.any p = false := by
    rw [List.any_eq_false]
    intro x hx
    obtain ⟨j, hj, rfl⟩ := List.getElem_of_mem hx
    have := hb j hj
    rw [rdS_get xs j hj] at this
    simp [this]
  exact ⟨h2, by unfold idxOfS; rw [if_neg (by simp [h2])]⟩
set_option maxHeartbeats 2000000 in
theorem indexFunc_str (g : Nat) (lb : Array Value) (p : ByteArray → Bool) (eg : ∀ args w, (callFunc g args).run Tryd.prog w = .ok (.enter g args) w) (A0 : Option Addr) (c0 : Nat) (xs : List ByteArray) (w : World)
    (hp : PredStr g lb p xs w) (hr : Kd.string.C w A0 xs.length xs) :
    Calls Tryd.prog 67 #[.slice A0 xs.length c0, .func (.func g) #[] lb] w fun e w' => e = .returned (.int .i64 (idxOfS p xs)) ∧ Below w.heap.size w w' := by
  have HR := Aside0.mk hr
  have HP := Aside0.mk hp
  have hm : xs.length ≤ 9223372036854775807 := hr.2.1
  clear hr hp
  go_enter Tryd.func67, Tryd.ntmps67
  go_wp2
  go_loopg [5, 8] xs.length (fun gg _ s8 wr => ∃ kk : Nat, kk ≤ xs.length ∧ xs.length - kk ≤ gg ∧ s8 = .int .i64 kk ∧ Aside0 (Below w.heap.size w wr) ∧ Aside0 (∀ j : Nat, j < kk → p (rdOf ByteArray.empty xs j) = false))
  case atStart => exact ⟨0, Nat.zero_le _, by omega, rfl, ⟨Below.refl _ w⟩, ⟨fun j hj => absurd hj (Nat.not_lt_zero _)⟩⟩
  case round =>
    obtain ⟨kk, hkk, hg, rfl, HB, HN⟩ := hrel
    by_cases hlt : kk < xs.length
    · have q1 : (kk : Int) < (xs.length : Int) := by omega
      have p1 : 0 ≤ (kk : Int) := by omega
      obtain ⟨ad, e1, hx⟩ := Kd.at_string (Kd.C_below HR.out HB.out) (kk : Int) p1 q1
      cases e1
      simp only [Int.toNat_natCast] at hx
      have hcall := HP.out wr (rdOf ByteArray.empty xs kk) (by rw [rdS_get xs kk hlt]; exact List.getElem_mem hlt) HB.out
      replace p1 := eq_true p1
      replace q1 := eq_true q1
      cases hq : p (rdOf ByteArray.empty xs kk) with
      | true =>
        rw [hq] at hcall
        have HQ := Aside0.mk hq
        clear hq
        go_wp2_with (go_at_fn g; (with_reducible refine hcall.mono ?_); rintro e w' ⟨rfl, hb'⟩)
        go_ret
        exact ⟨by rw [idxOfS_hit p xs kk hlt HQ.out HN.out]; rfl, hb'⟩
      | false =>
        rw [hq] at hcall
        have HQ := Aside0.mk hq
        clear hq
        go_wp2_with (go_at_fn g; (with_reducible refine hcall.mono ?_); rintro e w' ⟨rfl, hb'⟩)
        go_roundg (xs.length - (kk + 1))
        case measure => omega
        case rel =>
          refine ⟨kk + 1, by omega, by omega, by go_num, ⟨hb'⟩, ⟨fun j hj => ?_⟩⟩
          by_cases e : j = kk
          · subst e
            exact HQ.out
          · exact HN.out j (by omega)
    · have q1 : ¬ (kk : Int) < (xs.length : Int) := by omega
      have e1 : kk = xs.length := by omega
      have HQ := Aside0.mk e1
      clear e1
      go_wp2
      go_ret
      exact ⟨by rw [(idxOfS_miss p xs (fun j hj => HN.out j (by have := HQ.out; omega))).2]; rfl, HB.out⟩
theorem containsFunc_str (g : Nat) (lb : Array Value) (p : ByteArray → Bool) (eg : ∀ args w, (callFunc g args).run Tryd.prog w = .ok (.enter g args) w) (A0 : Option Addr) (c0 : Nat) (xs : List ByteArray) (w : World)
    (hp : PredStr g lb p xs w) (hr : Kd.string.C w A0 xs.length xs) :
    Calls Tryd.prog 47 #[.slice A0 xs.length c0, .func (.func g) #[] lb] w fun e w' => e = .returned (.bool (xs.any p)) ∧ Below w.heap.size w w' := by
  have HI := Aside0.mk (indexFunc_str g lb p eg A0 c0 xs w hp hr)
  have hz : decide (idxOfS p xs ≥ 0) = xs.any p := by
    unfold idxOfS
    cases h : xs.any p <;> simp
  clear hp hr
  have HZ := Aside0.mk hz
  clear hz
  go_enter Tryd.func47, Tryd.ntmps47
  go_wp2_with (go_at_call 67; (with_reducible refine HI.out.mono ?_); rintro e w' ⟨rfl, hb⟩)
  go_ret
  exact ⟨by rw [← HZ.out]; rfl, hb⟩
theorem within_decR (a b c : Int) : impl_within.f a b c = some (decide (b ≤ a ∧ a ≤ c)) := by
  unfold impl_within.f
  by_cases h : b ≤ a
  · rw [if_pos h]; simp [h]
  · rw [if_neg h]; simp [h]
/-- A row that is no box, or of another length than the first one. -/
def rcBad (ob : ByteArray → Bool) (n0 : Nat) (s : ByteArray) : Bool := !ob s || !decide (s.size = n0)
set_option maxHeartbeats 2000000 in
set_option maxRecDepth 100000 in
theorem rc_pred1 (ob : ByteArray → Bool) (A0 : Option Addr) (c0 : Nat) (l0 : List ByteArray) (x : ByteArray) (b1 : Nat) (W : World) (h1 : W.cell? ⟨b1, 0, none⟩ = some (.slice A0 l0.length c0)) (hr : Kd.string.C W A0 l0.length l0) (h0 : 0 < l0.length) (ht : impl_isTested.f x = some (ob x)) :
    Calls Tryd.prog 48 #[.string x, .pointer (some ⟨b1, 0, none⟩)] W fun e w' => e = .returned (.bool (rcBad ob (rdOf ByteArray.empty l0 0).size x)) ∧ Below W.heap.size W w' := by
  obtain ⟨y0, hy0⟩ : ∃ y0, y0 = rdOf ByteArray.empty l0 0 := ⟨_, rfl⟩
  obtain ⟨ad, e1, hx⟩ := Kd.at_string hr (0 : Int) (by omega) (by omega)
  subst e1
  rw [← hy0] at hx ⊢
  rw [show (0 : Int).toNat = 0 from rfl, Addr.add_zero'] at hx
  have q0 : ((0 : Int) < (l0.length : Int)) = True := eq_true (by omega)
  have n0 : (0 < l0.length) = True := eq_true h0
  clear hy0 hr
  cases hb : ob x with
  | false =>
    rw [hb] at ht
    have HT := Aside0.mk ht
    have HB := Aside0.mk (show rcBad ob y0.size x = true by unfold rcBad; rw [hb]; rfl)
    clear ht hb h0
    go_enter Tryd.func48, Tryd.ntmps48
    go_wp2_with (go_at_call 41; (with_reducible refine (impl_isTested.calls _ _ _ HT.out).mono ?_); rintro e w' ⟨rfl, hb⟩)
    go_ret
    exact ⟨by rw [HB.out]; rfl, hb⟩
  | true =>
    rw [hb] at ht
    have HT := Aside0.mk ht
    by_cases c1 : x.size = y0.size
    · have c1a : ((x.size : Int) != (y0.size : Int)) = false := by rw [bne_eq_false_iff_eq]; omega
      have c1b : (x.size != y0.size) = false := by rw [bne_eq_false_iff_eq]; omega
      have c1c : (x.size == y0.size) = true := by rw [beq_iff_eq]; omega
      have HB := Aside0.mk (show rcBad ob y0.size x = false by unfold rcBad; rw [hb, decide_eq_true c1]; rfl)
      have HX := Aside0.mk hx
      have H1 := Aside0.mk h1
      clear ht hb h0 c1 hx h1
      go_enter Tryd.func48, Tryd.ntmps48
      go_wp2_with (go_at_call 41; (with_reducible refine (impl_isTested.calls _ _ _ HT.out).mono ?_); rintro e w' ⟨rfl, hb⟩; have h1 := (hb.cell (World.block_lt_of_cell? _ _ H1.out)).trans H1.out; have hx := (hb.cell (World.block_lt_of_cell? _ _ HX.out)).trans HX.out)
      go_ret
      exact ⟨by rw [HB.out]; rfl, hb⟩
    · have c1a : ((x.size : Int) != (y0.size : Int)) = true := by rw [bne_iff_ne]; omega
      have c1b : (x.size != y0.size) = true := by rw [bne_iff_ne]; omega
      have c1c : (x.size == y0.size) = false := by rw [beq_eq_false_iff_ne]; omega
      have HB := Aside0.mk (show rcBad ob y0.size x = true by unfold rcBad; rw [hb, decide_eq_false c1]; rfl)
      have HX := Aside0.mk hx
      have H1 := Aside0.mk h1
      clear ht hb h0 c1 hx h1
      go_enter Tryd.func48, Tryd.ntmps48
      go_wp2_with (go_at_call 41; (with_reducible refine (impl_isTested.calls _ _ _ HT.out).mono ?_); rintro e w' ⟨rfl, hb⟩; have h1 := (hb.cell (World.block_lt_of_cell? _ _ H1.out)).trans H1.out; have hx := (hb.cell (World.block_lt_of_cell? _ _ HX.out)).trans HX.out)
      go_ret
      exact ⟨by rw [HB.out]; rfl, hb⟩
def rcX (x : Nat) (s : ByteArray) : Bool := bt s (x : Int) == 120
set_option maxHeartbeats 2000000 in
theorem rc_pred2 (x : Nat) (s : ByteArray) (b1 : Nat) (W : World) (h1 : W.cell? ⟨b1, 0, none⟩ = some (.int .i64 (x : Int))) (hx : x < s.size) :
    Calls Tryd.prog 50 #[.string s, .pointer (some ⟨b1, 0, none⟩)] W fun e w' => e = .returned (.bool (rcX x s)) ∧ Below W.heap.size W w' := by
  have hxb : ∀ h : x < s.size, (((s[x]'h).toNat : Nat) : Int) = bt s (x : Int) := fun h => bt_at s (x : Int) h
  have p1 := eq_true (show (0 : Int) ≤ (x : Int) by omega)
  have q1 := eq_true (show (x : Int) < (s.size : Int) by omega)
  have q2 := eq_true hx
  clear hx
  go_enter Tryd.func50, Tryd.ntmps50
  go_wp2
  go_ret
  exact ⟨by first | rfl | (unfold rcX; simp), Below.refl _ _⟩
theorem heap_new (w : World) (o : Obj) : (w.alloc o).heap[w.heap.size]? = some o := by
  show (w.heap.push o)[w.heap.size]? = _
  simp
theorem rc_filter_snoc (p : Nat → Bool) (n : Nat) : ((List.range (n + 1)).filter p).map (fun (y : Nat) => (y : Int)) = if p n = true then ((List.range n).filter p).map (fun (y : Nat) => (y : Int)) ++ [(n : Int)] else ((List.range n).filter p).map (fun (y : Nat) => (y : Int)) := by
  rw [List.range_succ, List.filter_append]
  cases h : p n <;> simp [h]
theorem rc_filter_len (p : Nat → Bool) (n : Nat) : (((List.range n).filter p).map (fun (y : Nat) => (y : Int))).length ≤ n := by
  rw [List.length_map]
  exact Nat.le_trans (List.length_filter_le _ _) (by rw [List.length_range]; exact Nat.le_refl _)
def rcRowsI (l0 : List ByteArray) (hx : ByteArray → Bool) (n : Nat) : List Int := ((List.range n).filter fun (y : Nat) => hx (rdOf ByteArray.empty l0 (y : Int))).map fun (y : Nat) => (y : Int)
def rcColsI (l0 : List ByteArray) (n : Nat) : List Int := ((List.range n).filter fun (x : Nat) => l0.any (rcX x)).map fun (x : Nat) => (x : Int)
def impl_RowsAndColumns.f (l0 : List ByteArray) : Option (List Int × List Int × Int × Bool) := none
/-- slices.ContainsFunc at the first closure, in every world behind the box. -/
theorem rc_any (ob : ByteArray → Bool) (A0 : Option Addr) (c0 : Nat) (l0 : List ByteArray) (w : World) (hr : Kd.string.C w A0 l0.length l0) (h0 : 0 < l0.length) (hts : ∀ s ∈ l0, impl_isTested.f s = some (ob s)) (W : World) (hW : Below (w.heap.size + 1) (w.alloc (.cells #[.slice A0 l0.length c0] 28)) W) :
    Calls Tryd.prog 47 #[.slice A0 l0.length c0, .func (.func 48) #[] #[.pointer (some ⟨w.heap.size, 0, none⟩)]] W fun e w' => e = .returned (.bool (l0.any (rcBad ob (rdOf ByteArray.empty l0 0).size))) ∧ Below W.heap.size W w' := by
  have hz := hW.size
  rw [World.size_alloc] at hz
  have hc : W.cell? ⟨w.heap.size, 0, none⟩ = some (.slice A0 l0.length c0) := (hW.cell (p := ⟨w.heap.size, 0, none⟩) (by show w.heap.size < _; omega)).trans (by simp)
  have hrW : Kd.string.C W A0 l0.length l0 := Kd.C_below hr (((Below.refl _ w).alloc (Nat.le_refl _) _).trans (hW.mono (by omega)))
  exact containsFunc_str 48 #[.pointer (some ⟨w.heap.size, 0, none⟩)] (rcBad ob (rdOf ByteArray.empty l0 0).size) (enters_of Tryd.func48 (by kernel_rfl) rfl) A0 c0 l0 W
    (fun W2 x hx hW2 => by
      refine (rc_pred1 ob A0 c0 l0 x _ W2 ((hW2.cell (p := ⟨w.heap.size, 0, none⟩) (by show w.heap.size < _; omega)).trans hc) (Kd.C_below hrW hW2) h0 (hts x hx)).mono ?_
      rintro e w' ⟨rfl, hd⟩
      exact ⟨rfl, hW2.trans (hd.mono hW2.size)⟩) hrW
set_option maxHeartbeats 4000000 in
set_option maxRecDepth 100000 in
theorem impl_RowsAndColumns.bad (ob : ByteArray → Bool) (A0 : Option Addr) (c0 : Nat) (l0 : List ByteArray) (w : World) (hr : Kd.string.C w A0 l0.length l0) (hts : ∀ s ∈ l0, impl_isTested.f s = some (ob s))
    (hg : (decide (1 ≤ (l0.length : Int) ∧ (l0.length : Int) ≤ 20) && !l0.any (rcBad ob (rdOf ByteArray.empty l0 0).size)) = false) :
    Calls Tryd.prog 19 #[.slice A0 l0.length c0] w fun e w' => e = .returned (.tuple #[.slice none 0 0, .slice none 0 0, .int .i64 0, .bool false]) ∧ Below w.heap.size w w' := by
  have hw := within_decR (l0.length : Int) 1 20
  have hb0 : Below w.heap.size w (w.alloc (.cells #[.slice A0 l0.length c0] 28)) := (Below.refl _ w).alloc (Nat.le_refl _) _
  have HB0 := Aside0.mk hb0
  by_cases c : 1 ≤ (l0.length : Int) ∧ (l0.length : Int) ≤ 20
  · rw [decide_eq_true c] at hw hg
    have hany : l0.any (rcBad ob (rdOf ByteArray.empty l0 0).size) = true := by simpa using hg
    have HC := Aside0.mk (fun W hW => rc_any ob A0 c0 l0 w hr (by omega) hts W hW)
    rw [hany] at HC
    have HW := Aside0.mk hw
    clear hw hg hany hb0 hr hts c
    go_enter Tryd.func19, Tryd.ntmps19
    go_wp2_with (first | (go_at_call 42; (with_reducible refine (impl_within.calls _ _ _ true _ HW.out).mono ?_); rintro e w' ⟨rfl, ⟨nd, rfl⟩⟩) | (go_at_call 47; (with_reducible refine (HC.out _ (pw_below_drewN (Below.refl _ _) nd)).mono ?_); rintro e w' ⟨rfl, hb⟩))
    refine bodyPost_ret (v := .tuple #[.slice none 0 0, .slice none 0 0, .int .i64 0, .bool false]) ?_ rfl ⟨rfl, ?_⟩
    · simp [results, Tryd.f19, go_sem]
    · exact (pw_below_drewN HB0.out nd).trans (hb.mono (by simp))
  · rw [decide_eq_false c] at hw
    have HW := Aside0.mk hw
    clear hw hg hb0 hr hts c
    go_enter Tryd.func19, Tryd.ntmps19
    go_wp2_with (first | (go_at_call 42; (with_reducible refine (impl_within.calls _ _ _ false _ HW.out).mono ?_); rintro e w' ⟨rfl, ⟨nd, rfl⟩⟩))
    refine bodyPost_ret (v := .tuple #[.slice none 0 0, .slice none 0 0, .int .i64 0, .bool false]) ?_ rfl ⟨rfl, ?_⟩
    · simp [results, Tryd.f19, go_sem]
    · exact pw_below_drewN HB0.out nd
set_option maxHeartbeats 4000000 in
set_option maxRecDepth 100000 in
theorem impl_RowsAndColumns.good (ob hx : ByteArray → Bool) (A0 : Option Addr) (c0 : Nat) (l0 : List ByteArray) (w : World) (hr : Kd.string.C w A0 l0.length l0) (hts : ∀ s ∈ l0, impl_isTested.f s = some (ob s)) (hxs : ∀ s ∈ l0, strings_Contains.f s (⟨#[120]⟩ : ByteArray) = some (hx s))
    (hc : 1 ≤ (l0.length : Int) ∧ (l0.length : Int) ≤ 20) (hany : l0.any (rcBad ob (rdOf ByteArray.empty l0 0).size) = false) (hsz : (rdOf ByteArray.empty l0 0).size ≤ 1000) :
    Calls Tryd.prog 19 #[.slice A0 l0.length c0] w fun e w' => ∃ v0 v1 : Value, e = .returned (.tuple #[v0, v1, .int .i64 (wrap64 (((rcRowsI l0 hx l0.length).length : Int) * ((rcColsI l0 (rdOf ByteArray.empty l0 0).size).length : Int))), .bool true]) ∧
      Kd.R (Kd.int .i64) 3 w' w.heap.size (fun k => some k ≠ v1.ownBlock) v0 (rcRowsI l0 hx l0.length) ∧ Kd.R (Kd.int .i64) 3 w' w.heap.size (fun k => some k ≠ v0.ownBlock) v1 (rcColsI l0 (rdOf ByteArray.empty l0 0).size) ∧ Below w.heap.size w w' := by
  have hw := within_decR (l0.length : Int) 1 20
  rw [decide_eq_true hc] at hw
  have hsame : ∀ s ∈ l0, s.size = (rdOf ByteArray.empty l0 0).size := by
    intro s hs
    have h1 : rcBad ob (rdOf ByteArray.empty l0 0).size s = false := by
      cases h : rcBad ob (rdOf ByteArray.empty l0 0).size s with
      | false => rfl
      | true =>
        have : l0.any (rcBad ob (rdOf ByteArray.empty l0 0).size) = true := List.any_eq_true.2 ⟨s, hs, h⟩
        rw [hany] at this
        cases this
    unfold rcBad at h1
    simp only [Bool.or_eq_false_iff, Bool.not_eq_false'] at h1
    exact of_decide_eq_true h1.2
  have HB0 := Aside0.mk (show Below w.heap.size w (w.alloc (.cells #[.slice A0 l0.length c0] 28)) from (Below.refl _ w).alloc (Nat.le_refl _) _)
  have HX0 := Aside0.mk (show (w.alloc (.cells #[.slice A0 l0.length c0] 28)).cell? ⟨w.heap.size, 0, none⟩ = some (.slice A0 l0.length c0) by simp)
  have HC := Aside0.mk (fun W hW => rc_any ob A0 c0 l0 w hr (by omega) hts W hW)
  rw [hany] at HC
  obtain ⟨y0, hy0⟩ : ∃ y0, y0 = rdOf ByteArray.empty l0 0 := ⟨_, rfl⟩
  rw [← hy0] at hsame hsz ⊢
  have HY0 := Aside0.mk hy0
  have HW := Aside0.mk hw
  have HR := Aside0.mk hr
  have HCX := Aside0.mk hxs
  have HL := Aside0.mk hc
  have HSM := Aside0.mk hsame
  have HSZ := Aside0.mk hsz
  clear hw hr hts hxs hc hany hsame hsz hy0
  go_enter Tryd.func19, Tryd.ntmps19
  go_wp2_with (first | (go_at_call 42; (with_reducible refine (impl_within.calls _ _ _ true _ HW.out).mono ?_); rintro e w' ⟨rfl, ⟨nd, rfl⟩⟩) | (go_at_call 47; (with_reducible refine (HC.out _ (pw_below_drewN (Below.refl _ _) nd)).mono ?_); rintro e w3 ⟨rfl, hb⟩; have hB3 : Below (w.heap.size + 1) (w.alloc (.cells #[.slice A0 l0.length c0] 28)) w3 := (pw_below_drewN (Below.refl _ _) nd).trans (hb.mono (by simp)); have hX3 := (hB3.cell (p := ⟨w.heap.size, 0, none⟩) (by show w.heap.size < _; omega)).trans HX0.out; have hZ3 := hB3.size; have HB3 := Aside0.mk hB3; have hX4 := ((((Below.refl _ w3).alloc (Nat.le_refl _) (.cells #[] 3)).alloc (by simp) (.cells #[] 3)).cell (World.block_lt_of_cell? w3 _ hX3)).trans hX3; have HX3 := Aside0.mk hX3; have HZ3 := Aside0.mk hZ3; clear hb hB3 hX3 hZ3))
  have hB5 : Below (w.heap.size + 1) (w.alloc (.cells #[.slice A0 l0.length c0] 28)) ((w3.alloc (.cells #[] 3)).alloc (.cells #[] 3)) := by
    have h1 := HZ3.out
    rw [World.size_alloc] at h1
    exact (HB3.out.alloc (by omega) _).alloc (by rw [World.size_alloc]; omega) _
  have hR6 : Kd.R (Kd.int .i64) 3 ((w3.alloc (.cells #[] 3)).alloc (.cells #[] 3)) (w.heap.size + 1) (fun k => k ≠ w3.heap.size + 1) (.slice (some ⟨w3.heap.size, 0, none⟩) 0 0) ([] : List Int) := by
    have h1 := HZ3.out
    rw [World.size_alloc] at h1
    refine Kd.R_of_own ⟨rfl, .inr ⟨w3.heap.size, 0, #[], rfl, by omega, ?_, Nat.le_refl _, Nat.zero_le _, rfl, rfl⟩⟩ (fun k hk => by simp [Value.ownBlock] at hk; omega)
    exact (Below.heap_alloc _ _ _ (by rw [World.size_alloc]; omega)).trans (heap_new w3 _)
  have hR7 : Kd.R (Kd.int .i64) 3 ((w3.alloc (.cells #[] 3)).alloc (.cells #[] 3)) (w.heap.size + 1) (fun k => k = w3.heap.size + 1) (.slice (some ⟨w3.heap.size + 1, 0, none⟩) 0 0) ([] : List Int) := by
    have h1 := HZ3.out
    rw [World.size_alloc] at h1
    have h2 := heap_new (w3.alloc (.cells #[] 3)) (.cells #[] 3)
    rw [World.size_alloc] at h2
    exact Kd.R_of_own ⟨rfl, .inr ⟨w3.heap.size + 1, 0, #[], rfl, by omega, h2, Nat.le_refl _, Nat.zero_le _, rfl, rfl⟩⟩ (fun k hk => by simp [Value.ownBlock] at hk; omega)
  generalize ((w3.alloc (.cells #[] 3)).alloc (.cells #[] 3)) = W5 at *
  generalize w3.heap.size = b6 at *
  have HB5 := Aside0.mk hB5
  have HR6 := Aside0.mk hR6
  have HR7 := Aside0.mk hR7
  clear hB5 hR6 hR7 HB3 HX3 HZ3 hX4
  go_loopg [6, 24] l0.length (fun gg v6 v24 wr => ∃ y : Nat, y ≤ l0.length ∧ l0.length - y ≤ gg ∧ v24 = .int .i64 (y : Int) ∧ Aside0 (Below (w.heap.size + 1) (w.alloc (.cells #[.slice A0 l0.length c0] 28)) wr) ∧ Aside0 (Kd.R (Kd.int .i64) 3 wr (w.heap.size + 1) (fun k => k ≠ b6 + 1) v6 (rcRowsI l0 hx y)) ∧ Aside0 (Kd.R (Kd.int .i64) 3 wr (w.heap.size + 1) (fun k => k = b6 + 1) (.slice (some ⟨b6 + 1, 0, none⟩) 0 0) ([] : List Int)))
  case atStart => exact ⟨0, Nat.zero_le _, by omega, rfl, HB5, HR6, HR7⟩
  case round =>
    clear HB5 HR6 HR7
    obtain ⟨y, hyn, hgk, rfl, HB, HO6, HO7⟩ := hrel
    by_cases hlt : y < l0.length
    · have q1 : (y : Int) < (l0.length : Int) := by omega
      have p1 : 0 ≤ (y : Int) := by omega
      have hrw : Kd.string.C wr A0 l0.length l0 := Kd.C_below HR.out ((HB0.out).trans (HB.out.mono (by omega)))
      obtain ⟨ad, e1, hx1⟩ := Kd.at_string hrw (y : Int) p1 q1
      have hwy : wrap64 ((y : Int) + 1) = ((y + 1 : Nat) : Int) := by unfold wrap64; have := HL.out; omega
      have HWY := Aside0.mk hwy
      have HSZB := Aside0.mk (show b6 + 1 < wr.heap.size from Kd.R_lt HO7.out (b6 + 1) (by simp [Value.ownBlock]))
      cases e1
      simp only [Int.toNat_natCast] at hx1
      have hmem : rdOf ByteArray.empty l0 (y : Int) ∈ l0 := by rw [rdS_get l0 y hlt]; exact List.getElem_mem hlt
      have hcon := HCX.out _ hmem
      have hsn := rc_filter_snoc (fun (y : Nat) => hx (rdOf ByteArray.empty l0 (y : Int))) y
      have hln := rc_filter_len (fun (y : Nat) => hx (rdOf ByteArray.empty l0 (y : Int))) y
      replace p1 := eq_true p1
      replace q1 := eq_true q1
      have HLT := Aside0.mk hlt
      have HLN := Aside0.mk hln
      clear hlt hmem hln hwy
      cases hq : hx (rdOf ByteArray.empty l0 (y : Int)) with
      | true =>
        rw [hq] at hcon hsn
        rw [if_pos rfl] at hsn
        have HSN := Aside0.mk (show rcRowsI l0 hx (y + 1) = rcRowsI l0 hx y ++ [(y : Int)] from hsn)
        have HCON := Aside0.mk hcon
        clear hsn hcon hq hrw
        go_wp2_with (first | (go_at_call 49; (with_reducible refine (strings_Contains.calls _ _ _ _ HCON.out).mono ?_); rintro e w' ⟨rfl, rfl⟩) | ((with_reducible refine gate_dst (N := 34) rfl ?_); refine Kd.R_append (Kd.int .i64) (w0 := w.alloc (.cells #[.slice (some ad) l0.length c0] 28)) (w.heap.size + 1) rfl (.tmp 31) (.tmp 33) 30 3 (.int .i64 0) 8 rfl Tryd.underlying30 info3 rfl (by decide) (by omega) u6 (rcRowsI l0 hx y) (y : Int) [.int .i64 (y : Int)] (fun k => k ≠ b6 + 1) (fun _ => False) rfl rfl rfl (fun _ hk => hk.elim) ?aF HO6.out HB.out ?aS ?aL ?_; (case aF => exact fun k hk => by have := HSZB.out; omega); (case aS => have := HB.out.size; rw [World.size_alloc] at this; exact this); (case aL => have h1 := HLN.out; have h2 := HL.out; have h3 := HLT.out; unfold rcRowsI; omega); intro v1 w1 ho hb hg hat))
        go_roundg (l0.length - (y + 1))
        case measure => have := HLT.out; omega
        case rel => exact ⟨y + 1, HLT.out, by omega, by rw [HWY.out], ⟨hb⟩, ⟨by rw [HSN.out]; exact ho⟩, ⟨Kd.R_grown HO7.out hg (fun k hk e => HO6.out.1 k e.symm hk)⟩⟩
      | false =>
        rw [hq] at hcon hsn
        rw [if_neg (by simp)] at hsn
        have HSN := Aside0.mk (show rcRowsI l0 hx (y + 1) = rcRowsI l0 hx y from hsn)
        have HCON := Aside0.mk hcon
        clear hsn hcon hq hrw
        go_wp2_with (go_at_call 49; (with_reducible refine (strings_Contains.calls _ _ _ _ HCON.out).mono ?_); rintro e w' ⟨rfl, rfl⟩)
        go_roundg (l0.length - (y + 1))
        case measure => have := HLT.out; omega
        case rel => exact ⟨y + 1, HLT.out, by omega, by rw [HWY.out], HB, ⟨by rw [HSN.out]; exact HO6.out⟩, HO7⟩
    · obtain rfl : y = l0.length := by omega
      clear hlt
      have hl0 := HL.out
      have hcb := (HB.out.cell (p := ⟨w.heap.size, 0, none⟩) (by show w.heap.size < _; omega)).trans HX0.out
      have hrw : Kd.string.C wr A0 l0.length l0 := Kd.C_below HR.out ((HB0.out).trans (HB.out.mono (by omega)))
      obtain ⟨ad, e1, hx1⟩ := Kd.at_string hrw (0 : Int) (by omega) (by omega)
      cases e1
      rw [show (0 : Int).toNat = 0 from rfl, Addr.add_zero', ← HY0.out] at hx1
      have q0 : ((0 : Int) < (l0.length : Int)) = True := eq_true (by omega)
      have n0 : (0 < l0.length) = True := eq_true (by omega)
      have hO6 : Kd.R (Kd.int .i64) 3 wr (w.heap.size + 1) (fun k => some k = u6.ownBlock) u6 (rcRowsI l0 hx l0.length) := Kd.R_tight rfl HO6.out
      have hO7 : Kd.R (Kd.int .i64) 3 wr (w.heap.size + 1) (fun k => some k ≠ u6.ownBlock) (.slice (some ⟨b6 + 1, 0, none⟩) 0 0) ([] : List Int) := Kd.R_mono HO7.out (fun k hk e => HO6.out.1 k e.symm hk)
      have HO6 := Aside0.mk hO6
      have HO7 := Aside0.mk hO7
      clear hO6 hO7 hrw hyn hgk hl0
      go_wp2
      clear hx1
      go_loopg [7, 40] y0.size (fun gg v7 v40 wq => ∃ x : Nat, x ≤ y0.size ∧ y0.size - x ≤ gg ∧ v40 = .int .i64 (x : Int) ∧ Aside0 (Below (w.heap.size + 1) (w.alloc (.cells #[.slice (some ad) l0.length c0] 28)) wq) ∧ Aside0 (Kd.R (Kd.int .i64) 3 wq (w.heap.size + 1) (fun k => some k = u6.ownBlock) u6 (rcRowsI l0 hx l0.length)) ∧ Aside0 (Kd.R (Kd.int .i64) 3 wq (w.heap.size + 1) (fun k => some k ≠ u6.ownBlock) v7 (rcColsI l0 x)))
      case atStart => exact ⟨0, Nat.zero_le _, by omega, rfl, HB, HO6, HO7⟩
      case round =>
        clear HB HO6 HO7 hcb
        obtain ⟨x, hxn, hgk, rfl, HB, HO6, HO7⟩ := hrel
        by_cases hlt : x < y0.size
        · have c1 : decide ((x : Int) < (y0.size : Int)) = true := decide_eq_true (by omega)
          have c1n : decide (x < y0.size) = true := decide_eq_true hlt
          have hwx : wrap64 ((x : Int) + 1) = ((x + 1 : Nat) : Int) := by unfold wrap64; have := HSZ.out; omega
          have HWX := Aside0.mk hwx
          have HLT := Aside0.mk hlt
          have hsn := rc_filter_snoc (fun (x : Nat) => l0.any (rcX x)) x
          have HLN := Aside0.mk (rc_filter_len (fun (x : Nat) => l0.any (rcX x)) x)
          have hcb := (HB.out.cell (p := ⟨w.heap.size, 0, none⟩) (by show w.heap.size < _; omega)).trans HX0.out
          have hcb2 := (((Below.refl _ wr).alloc (Nat.le_refl _) (.cells #[.int .i64 (x : Int)] 3)).cell (World.block_lt_of_cell? wr _ hcb)).trans hcb
          have hzb := HB.out.size
          rw [World.size_alloc] at hzb
          have HZB := Aside0.mk hzb
          have hBx : Below (w.heap.size + 1) (w.alloc (.cells #[.slice (some ad) l0.length c0] 28)) (wr.alloc (.cells #[.int .i64 (x : Int)] 3)) := HB.out.alloc hzb _
          have HBX := Aside0.mk hBx
          have hcx : (wr.alloc (.cells #[.int .i64 (x : Int)] 3)).cell? ⟨wr.heap.size, 0, none⟩ = some (.int .i64 (x : Int)) := by simp
          have HCXX := Aside0.mk hcx
          have hrw : Kd.string.C (wr.alloc (.cells #[.int .i64 (x : Int)] 3)) (some ad) l0.length l0 := Kd.C_below HR.out ((HB0.out).trans (hBx.mono (by omega)))
          have HCALL := Aside0.mk (containsFunc_str 50 #[.pointer (some ⟨wr.heap.size, 0, none⟩)] (rcX x) (enters_of Tryd.func50 (by kernel_rfl) rfl) (some ad) c0 l0 (wr.alloc (.cells #[.int .i64 (x : Int)] 3))
            (fun W2 s hs hW2 => by
              refine (rc_pred2 x s wr.heap.size W2 ((hW2.cell (World.block_lt_of_cell? _ _ hcx)).trans hcx) (by rw [HSM.out s hs]; exact hlt)).mono ?_
              rintro e w' ⟨rfl, hd⟩
              exact ⟨rfl, hW2.trans (hd.mono hW2.size)⟩) hrw)
          obtain ⟨qa, hqa⟩ : ∃ qa, qa = l0.any (rcX x) := ⟨_, rfl⟩
          rw [← hqa] at HCALL
          rw [← hqa] at hsn
          clear hcx hrw hBx hzb hlt hwx
          cases qa with
          | true =>
            rw [if_pos rfl] at hsn
            have HSN := Aside0.mk (show rcColsI l0 (x + 1) = rcColsI l0 x ++ [(x : Int)] from hsn)
            clear hsn hqa
            go_wp2_with (first | (go_at_call 47; (with_reducible refine HCALL.out.mono ?_); rintro e w4 ⟨rfl, hb4⟩; have hx4 := (hb4.cell (World.block_lt_of_cell? _ _ HCXX.out)).trans HCXX.out; have HB4 := Aside0.mk (HBX.out.trans (hb4.mono (by have := HZB.out; rw [World.size_alloc]; omega))); have HB5 := Aside0.mk (show Below wr.heap.size wr w4 from ((Below.refl _ wr).alloc (Nat.le_refl _) _).trans (hb4.mono (by rw [World.size_alloc]; omega))); clear hb4) | ((with_reducible refine gate_dst (N := 49) rfl ?_); refine Kd.R_append (Kd.int .i64) (w0 := w.alloc (.cells #[.slice (some ad) l0.length c0] 28)) (w.heap.size + 1) rfl (.tmp 46) (.tmp 48) 30 3 (.int .i64 0) 8 rfl Tryd.underlying30 info3 rfl (by decide) (by omega) u7 (rcColsI l0 x) (x : Int) [.int .i64 (x : Int)] (fun k => some k ≠ u6.ownBlock) (fun _ => False) rfl rfl rfl (fun _ hk => hk.elim) ?aF (Kd.R_below HO7.out HB5.out) HB4.out ?aS ?aL ?_; (case aF => exact fun k hk e => by have := Kd.R_lt HO6.out k e.symm; have := HB5.out.size; omega); (case aS => have := HB4.out.size; rw [World.size_alloc] at this; exact this); (case aL => have h1 := HLN.out; have h2 := HSZ.out; have h3 := HLT.out; unfold rcColsI; omega); intro v1 w1 ho hb hg hat))
            go_roundg (y0.size - (x + 1))
            case measure => have := HLT.out; omega
            case rel => exact ⟨x + 1, HLT.out, by omega, by rw [HWX.out], ⟨hb⟩, ⟨Kd.R_grown (Kd.R_below HO6.out HB5.out) hg (fun k hk e => HO7.out.1 k e.symm hk)⟩, ⟨by rw [HSN.out]; exact ho⟩⟩
          | false =>
            rw [if_neg (by simp)] at hsn
            have HSN := Aside0.mk (show rcColsI l0 (x + 1) = rcColsI l0 x from hsn)
            clear hsn hqa
            go_wp2_with (go_at_call 47; (with_reducible refine HCALL.out.mono ?_); rintro e w4 ⟨rfl, hb4⟩; have HB4 := Aside0.mk (HBX.out.trans (hb4.mono (by have := HZB.out; rw [World.size_alloc]; omega))); have HB5 := Aside0.mk (show Below wr.heap.size wr w4 from ((Below.refl _ wr).alloc (Nat.le_refl _) _).trans (hb4.mono (by rw [World.size_alloc]; omega))); clear hb4)
            go_roundg (y0.size - (x + 1))
            case measure => have := HLT.out; omega
            case rel => exact ⟨x + 1, HLT.out, by omega, by rw [HWX.out], HB4, ⟨Kd.R_below HO6.out HB5.out⟩, ⟨by rw [HSN.out]; exact Kd.R_below HO7.out HB5.out⟩⟩
        · obtain rfl : x = y0.size := by omega
          clear hlt
          obtain ⟨A6, c6, e6⟩ := Kd.R_slice HO6.out
          obtain ⟨A7, c7, e7⟩ := Kd.R_slice HO7.out
          subst e6
          subst e7
          go_wp2
          refine bodyPost_ret (v := .tuple #[.slice A6 (rcRowsI l0 hx l0.length).length c6, .slice A7 (rcColsI l0 y0.size).length c7, .int .i64 (wrap64 (((rcRowsI l0 hx l0.length).length : Int) * ((rcColsI l0 y0.size).length : Int))), .bool true]) ?_ rfl ⟨_, _, rfl, Kd.R_mono (Kd.R_lower HO6.out (Nat.le_succ _)) (fun k hk e => HO7.out.1 k e.symm hk), Kd.R_mono (Kd.R_lower HO7.out (Nat.le_succ _)) (fun k hk => hk), HB0.out.trans (HB.out.mono (Nat.le_succ _))⟩
          simp [results, Tryd.f19, go_sem]

end Go.Proofs.YtghfhcmjnpjgdaaDoor.S
