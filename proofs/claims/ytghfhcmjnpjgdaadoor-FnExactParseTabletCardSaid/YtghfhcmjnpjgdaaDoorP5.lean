-- Laid by a program of this session (wip/pp.py) over the seat's translation, with its own texts for some functions.
import Derived.Test.YtghfhcmjnpjgdaaDoorP0
import Derived.Test.YtghfhcmjnpjgdaaDoorP4
namespace Go.Proofs.YtghfhcmjnpjgdaaDoor.P
open Go.RowKit Go.Proofs.YtghfhcmjnpjgdaaDoorW.PrintWords Go.Proofs.YtghfhcmjnpjgdaaDoorW.PrintLast Go.Proofs.YtghfhcmjnpjgdaaDoorW.PrintMore
attribute [local go_sem] max2_int min2_int max_two min_two max_three min_three max_four min_four   -- for this text's walks alone
set_option linter.unusedVariables false
set_option linter.unusedSimpArgs false

/-! ### impl_areRows: function 53 -/
/-- What is asked of a predicate on texts: in every world in which what lay in w lies unturned, the call answers p at each text of a list. -/
def PredStr (g : Nat) (lb : Array Value) (p : ByteArray → Bool) (xs : List ByteArray) (w : World) : Prop :=
  ∀ (W : World) (x : ByteArray), x ∈ xs → Below w.heap.size w W → Calls Tryd.prog g (#[.string x] ++ lb) W fun e w' => e = .returned (.bool (p x)) ∧ Below w.heap.size w w'
def idxOfS (p : ByteArray → Bool) (xs : List ByteArray) : Int := if xs.any p then (xs.findIdx p : Int) else -1
theorem rdS_get (xs : List ByteArray) (j : Nat) (hj : j < xs.length) : rdOf ByteArray.empty xs (j : Int) = xs[j] := by
  simp [rdOf, List.getD_eq_getElem?_getD, List.getElem?_eq_getElem hj]
theorem idxOfS_hit (p : ByteArray → Bool) (xs : List ByteArray) (k : Nat) (hk : k < xs.length) (h : p (rdOf ByteArray.empty xs k) = true) (hb : ∀ j : Nat, j < k → p (rdOf ByteArray.empty xs j) = false) : idxOfS p xs = k := by
  have h1 : xs.findIdx p = k := by
    rw [List.findIdx_eq hk]
    exact ⟨by rw [← rdS_get xs k hk]; exact h, fun j hj => by rw [← rdS_get xs j (by omega)]; exact hb j hj⟩
  have h2 : xs.any p = true := by
    rw [List.any_eq_true]
    exact ⟨xs[k], List.getElem_mem hk, by rw [← rdS_get xs k hk]; exact h⟩
  unfold idxOfS
  rw [if_pos h2, h1]
theorem idxOfS_miss (p : ByteArray → Bool) (xs : List ByteArray) (hb : ∀ j : Nat, j < xs.length → p (rdOf ByteArray.empty xs j) = false) : xs.any p = false ∧ idxOfS p xs = -1 := by
  have h2 : xs.any p = false := by
    rw [List.any_eq_false]
    intro x hx
    obtain ⟨j, hj, rfl⟩ := List.getElem_of_mem hx
    have := hb j hj
    rw [rdS_get xs j hj] at this
    simp [this]
  exact ⟨h2, by unfold idxOfS; rw [if_neg (by simp [h2])]⟩
set_option maxHeartbeats 2000000 in
theorem indexFunc_str (g : Nat) (lb : Array Value) (p : ByteArray → Bool) (eg : ∀ args w, (callFunc g args).run Tryd.prog w = .ok (.enter g args) w) (A0 : Option Addr) (c0 : Nat) (xs : List ByteArray) (w : World)
    (hp : PredStr g lb p xs w) (hr : Kd.string.C w A0 xs.length xs) :
    Calls Tryd.prog 67 #[.slice A0 xs.length c0, .func (.func g) #[] lb] w fun e w' => e = .returned (.int .i64 (idxOfS p xs)) ∧ Below w.heap.size w w' := by
  have HR := Aside0.mk hr
  have HP := Aside0.mk hp
  have hm : xs.length ≤ 9223372036854775807 := hr.2.1
  clear hr hp
  go_enter Tryd.func67, Tryd.ntmps67
  go_wp2
  go_loopg [5, 8] xs.length (fun gg _ s8 wr => ∃ kk : Nat, kk ≤ xs.length ∧ xs.length - kk ≤ gg ∧ s8 = .int .i64 kk ∧ Aside0 (Below w.heap.size w wr) ∧ Aside0 (∀ j : Nat, j < kk → p (rdOf ByteArray.empty xs j) = false))
  case atStart => exact ⟨0, Nat.zero_le _, by omega, rfl, ⟨Below.refl _ w⟩, ⟨fun j hj => absurd hj (Nat.not_lt_zero _)⟩⟩
  case round =>
    obtain ⟨kk, hkk, hg, rfl, HB, HN⟩ := hrel
    by_cases hlt : kk < xs.length
    · have q1 : (kk : Int) < (xs.length : Int) := by omega
      have p1 : 0 ≤ (kk : Int) := by omega
      obtain ⟨ad, e1, hx⟩ := Kd.at_string (Kd.C_below HR.out HB.out) (kk : Int) p1 q1
      cases e1
      simp only [Int.toNat_natCast] at hx
      have hcall := HP.out wr (rdOf ByteArray.empty xs kk) (by rw [rdS_get xs kk hlt]; exact List.getElem_mem hlt) HB.out
      replace p1 := eq_true p1
      replace q1 := eq_true q1
      cases hq : p (rdOf ByteArray.empty xs kk) with
      | true =>
        rw [hq] at hcall
        have HQ := Aside0.mk hq
        clear hq
        go_wp2_with (go_at_fn g; (with_reducible refine hcall.mono ?_); rintro e w' ⟨rfl, hb'⟩)
        go_ret
        exact ⟨by rw [idxOfS_hit p xs kk hlt HQ.out HN.out]; rfl, hb'⟩
      | false =>
        rw [hq] at hcall
        have HQ := Aside0.mk hq
        clear hq
        go_wp2_with (go_at_fn g; (with_reducible refine hcall.mono ?_); rintro e w' ⟨rfl, hb'⟩)
        go_roundg (xs.length - (kk + 1))
        case measure => omega
        case rel =>
          refine ⟨kk + 1, by omega, by omega, by go_num, ⟨hb'⟩, ⟨fun j hj => ?_⟩⟩
          by_cases e : j = kk
          · subst e
            exact HQ.out
          · exact HN.out j (by omega)
    · have q1 : ¬ (kk : Int) < (xs.length : Int) := by omega
      have e1 : kk = xs.length := by omega
      have HQ := Aside0.mk e1
      clear e1
      go_wp2
      go_ret
      exact ⟨by rw [(idxOfS_miss p xs (fun j hj => HN.out j (by have := HQ.out; omega))).2]; rfl, HB.out⟩
theorem containsFunc_str (g : Nat) (lb : Array Value) (p : ByteArray → Bool) (eg : ∀ args w, (callFunc g args).run Tryd.prog w = .ok (.enter g args) w) (A0 : Option Addr) (c0 : Nat) (xs : List ByteArray) (w : World)
    (hp : PredStr g lb p xs w) (hr : Kd.string.C w A0 xs.length xs) :
    Calls Tryd.prog 47 #[.slice A0 xs.length c0, .func (.func g) #[] lb] w fun e w' => e = .returned (.bool (xs.any p)) ∧ Below w.heap.size w w' := by
  have HI := Aside0.mk (indexFunc_str g lb p eg A0 c0 xs w hp hr)
  have hz : decide (idxOfS p xs ≥ 0) = xs.any p := by
    unfold idxOfS
    cases h : xs.any p <;> simp
  clear hp hr
  have HZ := Aside0.mk hz
  clear hz
  go_enter Tryd.func47, Tryd.ntmps47
  go_wp2_with (go_at_call 67; (with_reducible refine HI.out.mono ?_); rintro e w' ⟨rfl, hb⟩)
  go_ret
  exact ⟨by rw [← HZ.out]; rfl, hb⟩
theorem within_dec (a b c : Int) : impl_within.f a b c = some (decide (b ≤ a ∧ a ≤ c)) := by
  unfold impl_within.f
  by_cases h : b ≤ a
  · rw [if_pos h]; simp [h]
  · rw [if_neg h]; simp [h]
/-- Is a row of another length than the first one, or too long, or with other signs? -/
def badRow (n0 : Nat) (most : Int) (signs : ByteArray) (x : ByteArray) : Bool :=
  !decide (x.size = n0) || (!decide (1 ≤ (x.size : Int) ∧ (x.size : Int) ≤ most) || !((⟨(Lib.trimS x.data.toList signs.data.toList).toArray⟩ : ByteArray)).toList.isEmpty)
set_option maxHeartbeats 2000000 in
set_option maxRecDepth 100000 in
theorem areRows_pred (A0 : Option Addr) (c0 : Nat) (l0 : List ByteArray) (a1 : Int) (a2 x : ByteArray) (b1 b2 b3 : Nat) (W : World) (h1 : W.cell? ⟨b1, 0, none⟩ = some (.slice A0 l0.length c0)) (h2 : W.cell? ⟨b2, 0, none⟩ = some (.int .i64 a1)) (h3 : W.cell? ⟨b3, 0, none⟩ = some (.string a2))
    (hr : Kd.string.C W A0 l0.length l0) (h0 : 0 < l0.length) (hm : a1 ≤ 1099511627776) (hs : a2.size ≤ 1048576) (ha : a2.data.toList.all (fun b => decide (b.toNat < 128)) = true) :
    Calls Tryd.prog 69 #[.string x, .pointer (some ⟨b1, 0, none⟩), .pointer (some ⟨b2, 0, none⟩), .pointer (some ⟨b3, 0, none⟩)] W fun e w' => e = .returned (.bool (badRow (rdOf ByteArray.empty l0 0).size a1 a2 x)) ∧ Below W.heap.size W w' := by
  obtain ⟨n0, hn0⟩ : ∃ n0, n0 = (rdOf ByteArray.empty l0 0).size := ⟨_, rfl⟩
  obtain ⟨y0, hy0⟩ : ∃ y0, y0 = rdOf ByteArray.empty l0 0 := ⟨_, rfl⟩
  have p1 : (0 : Int) ≤ (0 : Int) := by omega
  have q1 : (0 : Int) < (l0.length : Int) := by omega
  obtain ⟨ad, e1, hx⟩ := Kd.at_string hr (0 : Int) p1 q1
  subst e1
  rw [← hy0] at hx hn0
  rw [← hy0, ← hn0]
  replace hx : W.cell? (ad.add 0) = some (.string y0) := hx
  rw [show ad.add 0 = ad by cases ad; simp [Addr.add]] at hx
  clear hy0 hr
  by_cases c1 : x.size = n0
  · have c1a : ((x.size : Int) == (y0.size : Int)) = true := by rw [beq_iff_eq]; omega
    have c1c : ((x.size : Int) != (y0.size : Int)) = false := by rw [bne_eq_false_iff_eq]; omega
    have c1b : (x.size == y0.size) = true := by rw [beq_iff_eq]; omega
    have HC1 := Aside0.mk c1
    have HW := Aside0.mk (within_dec (x.size : Int) 1 a1)
    by_cases c2 : 1 ≤ (x.size : Int) ∧ (x.size : Int) ≤ a1
    · have HT := Aside0.mk (show strings_Trim.f x a2 = some ⟨(Lib.trimS x.data.toList a2.data.toList).toArray⟩ by unfold strings_Trim.f; rw [if_pos ⟨by omega, hs, ha⟩])
      have HB2 := Aside0.mk (show badRow n0 a1 a2 x = !((⟨(Lib.trimS x.data.toList a2.data.toList).toArray⟩ : ByteArray)).toList.isEmpty by unfold badRow; rw [decide_eq_true c1, decide_eq_true c2]; rfl)
      rw [decide_eq_true c2] at HW
      obtain ⟨z, hz⟩ : ∃ z : ByteArray, z = ⟨(Lib.trimS x.data.toList a2.data.toList).toArray⟩ := ⟨_, rfl⟩
      rw [← hz] at HT HB2
      clear hz c1 c2 hn0 ha hs hm
      go_enter Tryd.func69, Tryd.ntmps69
      go_wp2_with (first | (go_at_call 42; (with_reducible refine (impl_within.calls _ _ _ true _ HW.out).mono ?_); rintro e w' ⟨rfl, ⟨nd, rfl⟩⟩) | (go_at_call 66; (with_reducible refine (strings_Trim.calls _ _ _ _ HT.out).mono ?_); rintro e w' ⟨rfl, hd2⟩))
      go_ret
      exact ⟨by rw [HB2.out]; rfl, (pw_below_drewN (Below.refl _ _) nd).trans (hd2.mono (Nat.le_refl _))⟩
    · have HB2 := Aside0.mk (show badRow n0 a1 a2 x = true by unfold badRow; rw [decide_eq_true c1, decide_eq_false c2]; rfl)
      rw [decide_eq_false c2] at HW
      clear c1 c2 hn0 ha hs hm
      go_enter Tryd.func69, Tryd.ntmps69
      go_wp2_with (first | (go_at_call 42; (with_reducible refine (impl_within.calls _ _ _ false _ HW.out).mono ?_); rintro e w' ⟨rfl, ⟨nd, rfl⟩⟩))
      go_ret
      exact ⟨by rw [HB2.out]; rfl, pw_below_drewN (Below.refl _ _) nd⟩
  · have c1a : ((x.size : Int) == (y0.size : Int)) = false := by rw [beq_eq_false_iff_ne]; omega
    have c1c : ((x.size : Int) != (y0.size : Int)) = true := by rw [bne_iff_ne]; omega
    have c1b : (x.size == y0.size) = false := by rw [beq_eq_false_iff_ne]; omega
    have HB2 := Aside0.mk (show badRow n0 a1 a2 x = true by unfold badRow; rw [decide_eq_false c1]; rfl)
    clear c1 hn0 ha hs hm
    go_enter Tryd.func69, Tryd.ntmps69
    go_wp2
    go_ret
    exact ⟨by rw [HB2.out]; rfl, Below.refl _ _⟩
def impl_areRows.f (l0 : List ByteArray) (a1 : Int) (a2 : ByteArray) : Option (Bool) :=
  if a1 ≤ 1099511627776 ∧ a2.size ≤ 1048576 ∧ a2.data.toList.all (fun b => decide (b.toNat < 128)) = true then some (decide (1 ≤ (l0.length : Int) ∧ (l0.length : Int) ≤ a1) && !l0.any (badRow (rdOf ByteArray.empty l0 0).size a1 a2)) else none
set_option maxHeartbeats 2000000 in
theorem impl_areRows.calls (A0 : Option Addr) (c0 : Nat) (l0 : List ByteArray) (a1 : Int) (a2 : ByteArray) (r : Bool) (w : World) (hr0 : Kd.string.C w A0 l0.length l0) (hc0 : l0.length ≤ c0) (h : impl_areRows.f l0 a1 a2 = some r) :
    Calls Tryd.prog 53 #[.slice A0 l0.length c0, .int .i64 a1, .string a2] w fun e w' => e = .returned (.bool r) ∧ Below w.heap.size w w' := by
  unfold impl_areRows.f at h
  split at h
  case isFalse => cases h
  case isTrue g =>
  obtain ⟨q, hq⟩ : ∃ q, q = l0.any (badRow (rdOf ByteArray.empty l0 0).size a1 a2) := ⟨_, rfl⟩
  rw [← hq] at h
  have h := Option.some.inj h
  have hb0 : Below w.heap.size w (((w.alloc (.cells #[.slice A0 l0.length c0] 28)).alloc (.cells #[.int .i64 a1] 3)).alloc (.cells #[.string a2] 9)) := (((Below.refl _ w).alloc (Nat.le_refl _) _).alloc (by simp) _).alloc (by simp; omega) _
  have hw := within_dec (l0.length : Int) 1 a1
  by_cases c : 1 ≤ (l0.length : Int) ∧ (l0.length : Int) ≤ a1
  · have hd1 : ((w.alloc (.cells #[.slice A0 l0.length c0] 28)).alloc (.cells #[.int .i64 a1] 3)).cell? ⟨w.heap.size, 0, none⟩ = some (.slice A0 l0.length c0) := by simp
    have hd2 : ((w.alloc (.cells #[.slice A0 l0.length c0] 28)).alloc (.cells #[.int .i64 a1] 3)).cell? ⟨w.heap.size + 1, 0, none⟩ = some (.int .i64 a1) := by simp
    have hds : ((w.alloc (.cells #[.slice A0 l0.length c0] 28)).alloc (.cells #[.int .i64 a1] 3)).heap.size = w.heap.size + 2 := by simp
    obtain ⟨w3, hw3⟩ : ∃ w3, w3 = (((w.alloc (.cells #[.slice A0 l0.length c0] 28)).alloc (.cells #[.int .i64 a1] 3)).alloc (.cells #[.string a2] 9)) := ⟨_, rfl⟩
    rw [← hw3] at hb0
    obtain ⟨w2, hw2⟩ : ∃ w2, w2 = ((w.alloc (.cells #[.slice A0 l0.length c0] 28)).alloc (.cells #[.int .i64 a1] 3)) := ⟨_, rfl⟩
    have hw3' : w3 = w2.alloc (.cells #[.string a2] 9) := by rw [hw3, hw2]
    rw [← hw2] at hd1 hd2 hds
    have hB23 : Below w2.heap.size w2 w3 := by rw [hw3']; exact (Below.refl _ _).alloc (Nat.le_refl _) _
    have hc1 : w3.cell? ⟨w.heap.size, 0, none⟩ = some (.slice A0 l0.length c0) := (hB23.cell (p := ⟨w.heap.size, 0, none⟩) (by show w.heap.size < _; omega)).trans hd1
    have hc2 : w3.cell? ⟨w.heap.size + 1, 0, none⟩ = some (.int .i64 a1) := (hB23.cell (p := ⟨w.heap.size + 1, 0, none⟩) (by show w.heap.size + 1 < _; omega)).trans hd2
    have hc3 : w3.cell? ⟨w.heap.size + 2, 0, none⟩ = some (.string a2) := by rw [hw3', ← hds]; simp
    have hs : w3.heap.size = w.heap.size + 3 := by rw [hw3']; simp; omega
    clear hd1 hd2 hds hw2 hw3' hB23
    have HC : ∀ W : World, Below w3.heap.size w3 W → Calls Tryd.prog 47 #[.slice A0 l0.length c0, .func (.func 69) #[] #[.pointer (some ⟨w.heap.size, 0, none⟩), .pointer (some ⟨w.heap.size + 1, 0, none⟩), .pointer (some ⟨w.heap.size + 2, 0, none⟩)]] W fun e w' => e = .returned (.bool q) ∧ Below w.heap.size w w' := by
      intro W hW
      have hz := hW.size
      have hrW := Kd.C_below (Kd.C_below hr0 hb0) (hW.mono (by omega))
      have := containsFunc_str 69 #[.pointer (some ⟨w.heap.size, 0, none⟩), .pointer (some ⟨w.heap.size + 1, 0, none⟩), .pointer (some ⟨w.heap.size + 2, 0, none⟩)] (badRow (rdOf ByteArray.empty l0 0).size a1 a2) (enters_of Tryd.func69 (by kernel_rfl) rfl) A0 c0 l0 W
        (fun W2 x hx hW2 => by
          have hz2 := hW2.size
          refine (areRows_pred A0 c0 l0 a1 a2 x _ _ _ W2 ((hW2.cell (p := ⟨w.heap.size, 0, none⟩) (by show w.heap.size < _; omega)).trans ((hW.cell (p := ⟨w.heap.size, 0, none⟩) (by show w.heap.size < _; omega)).trans hc1))
            ((hW2.cell (p := ⟨w.heap.size + 1, 0, none⟩) (by show w.heap.size + 1 < _; omega)).trans ((hW.cell (p := ⟨w.heap.size + 1, 0, none⟩) (by show w.heap.size + 1 < _; omega)).trans hc2))
            ((hW2.cell (p := ⟨w.heap.size + 2, 0, none⟩) (by show w.heap.size + 2 < _; omega)).trans ((hW.cell (p := ⟨w.heap.size + 2, 0, none⟩) (by show w.heap.size + 2 < _; omega)).trans hc3))
            (Kd.C_below hrW hW2) (by omega) g.1 g.2.1 g.2.2).mono ?_
          rintro e w' ⟨rfl, hd⟩
          exact ⟨rfl, hW2.trans (hd.mono hz2)⟩) hrW
      rw [← hq] at this
      refine this.mono ?_
      rintro e w' ⟨rfl, hb⟩
      exact ⟨rfl, hb0.trans ((hW.mono (by omega)).trans (hb.mono (by omega)))⟩
    rw [hw3] at HC
    have HCC := Aside0.mk HC
    have HH := Aside0.mk (show r = !q by rw [← h, decide_eq_true c]; rfl)
    rw [decide_eq_true c] at hw
    have HW := Aside0.mk hw
    clear HC hc1 hc2 hc3 hs hw h hq hb0 hr0 hw3 g c
    go_enter Tryd.func53, Tryd.ntmps53
    go_wp2_with (first | (go_at_call 42; (with_reducible refine (impl_within.calls _ _ _ true _ HW.out).mono ?_); rintro e w' ⟨rfl, ⟨nd, rfl⟩⟩) | (go_at_call 47; (with_reducible refine (HCC.out _ (pw_below_drewN (Below.refl _ _) nd)).mono ?_); rintro e w' ⟨rfl, hb⟩))
    go_ret
    exact ⟨by rw [HH.out]; rfl, hb⟩
  · rw [decide_eq_false c] at hw h
    have HW := Aside0.mk hw
    have HB := Aside0.mk hb0
    obtain rfl : false = r := h
    clear hw h hq hb0 hr0 g c
    go_enter Tryd.func53, Tryd.ntmps53
    go_wp2_with (first | (go_at_call 42; (with_reducible refine (impl_within.calls _ _ _ false _ HW.out).mono ?_); rintro e w' ⟨rfl, ⟨nd, rfl⟩⟩))
    go_ret
    exact ⟨rfl, pw_below_drewN HB.out nd⟩

/-! ### impl_IsTablet: function 26 -/
def impl_IsTablet.f (l0 : List ByteArray) : Option (Bool) := (impl_areRows.f l0 10 (⟨#[35, 46]⟩ : ByteArray)).bind fun t125 => (some t125)
set_option maxHeartbeats 8000000 in
set_option maxRecDepth 100000 in
theorem impl_IsTablet.calls (A0 : Option Addr) (c0 : Nat) (l0 : List ByteArray) (r : Bool) (w : World) (hr0 : Kd.C Kd.string w A0 l0.length l0) (hc0 : l0.length ≤ c0) (h : impl_IsTablet.f l0 = some r) :
    Calls Tryd.prog 26 #[.slice A0 l0.length c0] w fun e w' => e = .returned (.bool r) ∧ Below w.heap.size w w' := by
  have HR0 := Aside0.mk hr0
  have HC0 := Aside0.mk hc0
  clear hr0 hc0
  have HB := Aside0.mk (Below.refl w.heap.size w)
  have H : ((impl_areRows.f l0 10 (⟨#[35, 46]⟩ : ByteArray)).bind fun t125 => (some t125)) = some r := h
  clear h
  replace H := Option.bind_eq_some_iff.mp H
  obtain ⟨t125, A20, H⟩ := H
  replace H : (some t125) = some r := H
  have A2 := Aside0.mk A20
  clear A20
  obtain rfl := Option.some.inj H
  go_enter Tryd.func26, Tryd.ntmps26
  go_wp2_with (first | ((with_reducible refine gate_callee (f := 53) rfl ?_); refine goesL_ (some 4) rfl rfl Tryd.func53 (by kernel_rfl) rfl #[.slice A0 l0.length c0, .int .i64 10, .string (⟨#[35, 46]⟩ : ByteArray)] rfl (by (try simp only [List.map_toArray, List.map_cons, List.map_nil]); first | done | rfl | (simp only [List.length_drop, List.length_take]; rfl)) ?_; (with_reducible refine (impl_areRows.calls _ _ l0 10 (⟨#[35, 46]⟩ : ByteArray) t125 _ ?side1 ?side2 A2.out).mono ?_); (case side1 => repeat (first | exact HR0.out | (with_reducible refine Kd.C_alloc ?_ _) | (with_reducible refine Kd.C_drewN ?_ _) | (with_reducible refine Kd.C_drew ?_))); (case side2 => exact HC0.out); rintro e w3 ⟨rfl, hb⟩; refine ⟨_, rfl, ?_⟩; have n0_ := Aside0.mk (below_step (by repeat (first | (with_reducible first | exact HB.out | apply below_alloc | apply pw_below_drewN | apply below_drew1) | exact HB.out)) hb); clear HB; have HB := n0_; clear n0_; (try clear hb); (try clear hb2); (try clear hk); (try clear hi)))
  go_ret
  exact ⟨by first | rfl | (simp [errW_none, errW_some] <;> rfl) | (simp [*, errW_none, errW_some] <;> rfl), by repeat (first | (with_reducible first | exact HB.out | apply below_alloc | apply pw_below_drewN | apply below_drew1) | exact HB.out)⟩

/-! ### strings_Split: function 64 -/
/-! strings.Split: the library's own proof, laid at this program's numbers; it asks that a variable of the library's own holds some number. -/
def splitLays_ren : Go.Shelf.Ren := ⟨fun | 146 => 64 | 221 => 80 | 268 => 92 | 138 => 93 | 143 => 68 | 195 => 104 | 197 => 95 | 218 => 105 | 219 => 88 | 260 => 106 | 217 => 98 | 225 => 99 | 224 => 100 | 267 => 101 | 266 => 109 | 314 => 110 | n => n, fun | 9 => 9 | 31 => 28 | 3 => 3 | 4 => 4 | 0 => 0 | 105 => 99 | 21 => 21 | 5 => 5 | 46 => 103 | 119 => 112 | 139 => 115 | 138 => 114 | 146 => 110 | 51 => 109 | n => n, fun | 1 => 0 | 3 => 1 | 4 => 2 | n => n⟩
theorem splitLays : Go.Proofs.LaysM.n146 Tryd.prog splitLays_ren := {
  mixed := by kernel_rfl
  f138 := Tryd.func93.trans (congrArg some (by kernel_rfl))
  f143 := Tryd.func68.trans (congrArg some (by kernel_rfl))
  f146 := Tryd.func64.trans (congrArg some (by kernel_rfl))
  f195 := Tryd.func104.trans (congrArg some (by kernel_rfl))
  f197 := Tryd.func95.trans (congrArg some (by kernel_rfl))
  f217 := Tryd.func98.trans (congrArg some (by kernel_rfl))
  f218 := Tryd.func105.trans (congrArg some (by kernel_rfl))
  f219 := Tryd.func88.trans (congrArg some (by kernel_rfl))
  f221 := Tryd.func80.trans (congrArg some (by kernel_rfl))
  f224 := Tryd.func100.trans (congrArg some (by kernel_rfl))
  f225 := Tryd.func99.trans (congrArg some (by kernel_rfl))
  f260 := Tryd.func106.trans (congrArg some (by kernel_rfl))
  f266 := Tryd.func109.trans (congrArg some (by kernel_rfl))
  f267 := Tryd.func101.trans (congrArg some (by kernel_rfl))
  f268 := Tryd.func92.trans (congrArg some (by kernel_rfl))
  f314 := Tryd.func110.trans (congrArg some (by kernel_rfl))
  t0 := Tryd.underlying0
  a0 := Tryd.isAgg0
  z0 := Tryd.sizeOf0
  v0 := Tryd.zeroValue0
  t3 := Tryd.underlying3
  a3 := Tryd.isAgg3
  z3 := Tryd.sizeOf3
  v3 := Tryd.zeroValue3
  t4 := Tryd.underlying4
  a4 := Tryd.isAgg4
  z4 := Tryd.sizeOf4
  v4 := Tryd.zeroValue4
  t5 := Tryd.underlying5
  a5 := Tryd.isAgg5
  z5 := Tryd.sizeOf5
  v5 := Tryd.zeroValue5
  t9 := Tryd.underlying9
  a9 := Tryd.isAgg9
  z9 := Tryd.sizeOf9
  v9 := Tryd.zeroValue9
  t21 := Tryd.underlying21
  a21 := Tryd.isAgg21
  z21 := Tryd.sizeOf21
  v21 := Tryd.zeroValue21
  t31 := Tryd.underlying28
  a31 := Tryd.isAgg28
  z31 := Tryd.sizeOf28
  v31 := Tryd.zeroValue28
  t46 := Tryd.underlying103
  a46 := Tryd.isAgg103
  z46 := Tryd.sizeOf103
  v46 := Tryd.zeroValue103
  t51 := Tryd.underlying109
  a51 := Tryd.isAgg109
  z51 := Tryd.sizeOf109
  v51 := Tryd.zeroValue109
  t105 := Tryd.underlying99
  a105 := Tryd.isAgg99
  z105 := Tryd.sizeOf99
  v105 := Tryd.zeroValue99
  t119 := Tryd.underlying112
  a119 := Tryd.isAgg112
  z119 := Tryd.sizeOf112
  t138 := Tryd.underlying114
  a138 := Tryd.isAgg114
  z138 := Tryd.sizeOf114
  v138 := Tryd.zeroValue114
  t139 := Tryd.underlying115
  a139 := Tryd.isAgg115
  z139 := Tryd.sizeOf115
  v139 := Tryd.zeroValue115
  t146 := Tryd.underlying110
  a146 := Tryd.isAgg110
  z146 := Tryd.sizeOf110
  v146 := Tryd.zeroValue110
  g1 := by kernel_rfl
  g3 := by kernel_rfl
  g4 := by kernel_rfl
  i0 := by kernel_rfl
  i3 := by kernel_rfl
  i4 := by kernel_rfl
  i5 := by kernel_rfl
  i9 := by kernel_rfl
  i21 := by kernel_rfl
  i31 := by kernel_rfl
  i46 := by kernel_rfl
  i51 := by kernel_rfl
  i105 := by kernel_rfl
  i138 := by kernel_rfl
  i139 := by kernel_rfl
  i146 := by kernel_rfl
  m1 := by kernel_rfl
  s1_3 := fun w h => Go.Proofs.cell_of_shapedOpen_int (zero := #[.int .i64 0]) (t := 3) h (of_decide_eq_true (by kernel_rfl)) (by kernel_rfl) rfl (by kernel_rfl) (by kernel_rfl) Tryd.underlying3
  m3 := by kernel_rfl
  m4 := by kernel_rfl }
/-- The library's own variable holds some number. -/
def gMax (w : World) : Prop := ∃ m, w.cell? ⟨splitLays_ren.g 1, 0, none⟩ = some (.int .i64 m)
theorem gMax_below {w W : World} (h : gMax w) (hB : Below w.heap.size w W) : gMax W := by
  obtain ⟨m, hm⟩ := h
  exact ⟨m, (hB.cell (World.block_lt_of_cell? w _ hm)).trans hm⟩
def strings_Split.f (l0 l1 : ByteArray) : Option (List ByteArray) :=
  if l0.size < 4294967281 ∧ 1 ≤ l1.size then some (Lib.splitB l1 0 (Lib.countB l0 l1) l0) else none
theorem strings_Split.calls (l0 l1 : ByteArray) (r : List ByteArray) (w : World) (hG : gMax w) (h : strings_Split.f l0 l1 = some r) :
    Calls Tryd.prog 64 #[.string l0, .string l1] w fun e w' => ∃ v0_ : Value, e = .returned (v0_) ∧ Kd.R Kd.string 9 w' w.heap.size (fun _ => True) v0_ r ∧ Below w.heap.size w w' := by
  unfold strings_Split.f at h
  split at h
  · rename_i g
    obtain rfl := Option.some.inj h
    obtain ⟨m, hm⟩ := hG
    have hlen := Lib.splitB_all l1 g.2 0 _ l0 rfl
    have hle := Lib.countB_le l1 g.2 l0.size l0 (Nat.le_refl _)
    refine (Any.strings_Split { splitLays with } splitLays.i9 l0 l1 m w g.1 hm g.2).mono ?_
    rintro e w' ⟨rfl, rfl⟩
    refine ⟨_, rfl, ?_, below_alloc (Below.refl _ _) _⟩
    rw [← hlen]
    have h2 := World.ownsRow_lit (base := w.heap.size) (e := 9) (size := 1) w ((Lib.splitB l1 0 (Lib.countB l0 l1) l0).map Value.string).toArray (Lib.splitB l1 0 (Lib.countB l0 l1) l0).length (Nat.le_refl _) (by unfold maxLen; omega) (by simp)
    have h3 : (w.alloc (.cells ((Lib.splitB l1 0 (Lib.countB l0 l1) l0).map Value.string).toArray 9)).ownsRow w.heap.size 9 1 (.slice (some ⟨w.heap.size, 0, none⟩) (Lib.splitB l1 0 (Lib.countB l0 l1) l0).length (Lib.splitB l1 0 (Lib.countB l0 l1) l0).length) (Lib.splitB l1 0 (Lib.countB l0 l1) l0).length (encs Value.string (Lib.splitB l1 0 (Lib.countB l0 l1) l0)) := by simpa [encs] using h2
    exact Kd.R_of_own h3 (fun _ _ => trivial)
  · cases h

/-! ### impl_ParseTablet: function 37 -/
def impl_ParseTablet.f (a0 : ByteArray) : Option (List ByteArray × Bool) := (strings_Split.f a0 (⟨#[47]⟩ : ByteArray)).bind fun t126 => ((impl_IsTablet.f t126).bind fun t129 => (if t129 = true then (some (t126, true)) else (some (([] : List ByteArray), false))))
set_option maxHeartbeats 8000000 in
set_option maxRecDepth 100000 in
theorem impl_ParseTablet.calls (a0 : ByteArray) (r1 : List ByteArray) (r2 : Bool) (w : World) (hG_ : gMax w) (h : impl_ParseTablet.f a0 = some (r1, r2)) :
    Calls Tryd.prog 37 #[.string a0] w fun e w' => ∃ v0_ : Value, e = .returned (.tuple #[v0_, .bool r2]) ∧ Kd.R Kd.string 9 w' w.heap.size (fun _ => True) v0_ r1 ∧ Below w.heap.size w w' := by
  have HG_ := Aside0.mk hG_
  clear hG_
  have HB := Aside0.mk (Below.refl w.heap.size w)
  have H : ((strings_Split.f a0 (⟨#[47]⟩ : ByteArray)).bind fun t126 => ((impl_IsTablet.f t126).bind fun t129 => (if t129 = true then (some (t126, true)) else (some (([] : List ByteArray), false))))) = some (r1, r2) := h
  clear h
  replace H := Option.bind_eq_some_iff.mp H
  obtain ⟨t126, A20, H⟩ := H
  replace H : ((impl_IsTablet.f t126).bind fun t129 => (if t129 = true then (some (t126, true)) else (some (([] : List ByteArray), false)))) = some (r1, r2) := H
  have A2 := Aside0.mk A20
  clear A20
  replace H := Option.bind_eq_some_iff.mp H
  obtain ⟨t129, A30, H⟩ := H
  replace H : (if t129 = true then (some (t126, true)) else (some (([] : List ByteArray), false))) = some (r1, r2) := H
  have A3 := Aside0.mk A30
  clear A30
  by_cases c4 : t129 = true
  · subst c4
    have H1 : (some (t126, true)) = some (r1, r2) := by rw [if_pos rfl] at H; exact H
    clear H
    have H := H1
    clear H1
    simp only [Option.some.injEq, Prod.mk.injEq] at H
    obtain ⟨rfl, rfl⟩ := H
    go_enter Tryd.func37, Tryd.ntmps37
    go_wp2_with (first | ((with_reducible refine gate_callee (f := 64) rfl ?_); refine goesL_ (some 6) rfl rfl Tryd.func64 (by kernel_rfl) rfl #[.string a0, .string (⟨#[47]⟩ : ByteArray)] rfl (by (try simp only [List.map_toArray, List.map_cons, List.map_nil]); first | done | rfl | (simp only [List.length_drop, List.length_take]; rfl)) ?_; (with_reducible refine (strings_Split.calls a0 (⟨#[47]⟩ : ByteArray) t126 _ (gMax_below HG_.out (by repeat (first | exact HB.out | apply below_alloc | apply pw_below_drewN | apply below_drew1))) A2.out).mono ?_); rintro e w5 ⟨v127, rfl, ho0, hb⟩; refine ⟨_, rfl, ?_⟩; have n0_ := Aside0.mk (Kd.R_lower ho0 (below_size (by repeat (first | (with_reducible first | exact HB.out | apply below_alloc | apply pw_below_drewN | apply below_drew1) | exact HB.out)))); have n1_ := Aside0.mk (below_step (by repeat (first | (with_reducible first | exact HB.out | apply below_alloc | apply pw_below_drewN | apply below_drew1) | exact HB.out)) hb); clear HB; have HO128 := n0_; have HB := n1_; clear n0_ n1_; (try clear hb); (try clear hb2); (try clear hk); (try clear hi); (try clear ho0); obtain ⟨Ao6, co6, eo6⟩ := Kd.R_slice HO128.out; subst eo6) | ((with_reducible refine gate_callee (f := 26) rfl ?_); refine goesL_ (some 8) rfl rfl Tryd.func26 (by kernel_rfl) rfl #[.slice Ao6 t126.length co6] rfl (by (try simp only [List.map_toArray, List.map_cons, List.map_nil]); first | done | rfl | (simp only [List.length_drop, List.length_take]; rfl)) ?_; (with_reducible refine (impl_IsTablet.calls _ _ t126 true _ ?side1 ?side2 A3.out).mono ?_); (case side1 => repeat (first | exact (Kd.R_reads' HO128.out).2.2 | (with_reducible refine Kd.C_alloc ?_ _) | (with_reducible refine Kd.C_drewN ?_ _) | (with_reducible refine Kd.C_drew ?_))); (case side2 => exact (Kd.R_reads' HO128.out).2.1); rintro e w7 ⟨rfl, hb⟩; refine ⟨_, rfl, ?_⟩; have n0_ := Aside0.mk (Kd.R_below (by (with_reducible repeat (first | apply Kd.R_alloc | apply Kd.R_drewN | apply Kd.R_drew)); exact HO128.out) hb); have n1_ := Aside0.mk (below_step (by repeat (first | (with_reducible first | exact HB.out | apply below_alloc | apply pw_below_drewN | apply below_drew1) | exact HB.out)) hb); clear HO128; clear HB; have HO128 := n0_; have HB := n1_; clear n0_ n1_; (try clear hb); (try clear hb2); (try clear hk); (try clear hi)))
    go_ret2
    exact ⟨_, by first | rfl | (simp [errW_none, errW_some] <;> rfl) | (simp [*, errW_none, errW_some] <;> rfl), by (with_reducible repeat (first | apply Kd.R_alloc | apply Kd.R_drewN | apply Kd.R_drew)); exact HO128.out, by repeat (first | (with_reducible first | exact HB.out | apply below_alloc | apply pw_below_drewN | apply below_drew1) | exact HB.out)⟩
  · replace c4 := Bool.eq_false_iff.mpr c4
    subst c4
    have H1 : (some (([] : List ByteArray), false)) = some (r1, r2) := by rw [if_neg (show ¬ (false = true) by decide)] at H; exact H
    clear H
    have H := H1
    clear H1
    simp only [Option.some.injEq, Prod.mk.injEq] at H
    obtain ⟨rfl, rfl⟩ := H
    go_enter Tryd.func37, Tryd.ntmps37
    go_wp2_with (first | ((with_reducible refine gate_callee (f := 64) rfl ?_); refine goesL_ (some 6) rfl rfl Tryd.func64 (by kernel_rfl) rfl #[.string a0, .string (⟨#[47]⟩ : ByteArray)] rfl (by (try simp only [List.map_toArray, List.map_cons, List.map_nil]); first | done | rfl | (simp only [List.length_drop, List.length_take]; rfl)) ?_; (with_reducible refine (strings_Split.calls a0 (⟨#[47]⟩ : ByteArray) t126 _ (gMax_below HG_.out (by repeat (first | exact HB.out | apply below_alloc | apply pw_below_drewN | apply below_drew1))) A2.out).mono ?_); rintro e w8 ⟨v127, rfl, ho0, hb⟩; refine ⟨_, rfl, ?_⟩; have n0_ := Aside0.mk (Kd.R_lower ho0 (below_size (by repeat (first | (with_reducible first | exact HB.out | apply below_alloc | apply pw_below_drewN | apply below_drew1) | exact HB.out)))); have n1_ := Aside0.mk (below_step (by repeat (first | (with_reducible first | exact HB.out | apply below_alloc | apply pw_below_drewN | apply below_drew1) | exact HB.out)) hb); clear HB; have HO128 := n0_; have HB := n1_; clear n0_ n1_; (try clear hb); (try clear hb2); (try clear hk); (try clear hi); (try clear ho0); obtain ⟨Ao9, co9, eo9⟩ := Kd.R_slice HO128.out; subst eo9) | ((with_reducible refine gate_callee (f := 26) rfl ?_); refine goesL_ (some 8) rfl rfl Tryd.func26 (by kernel_rfl) rfl #[.slice Ao9 t126.length co9] rfl (by (try simp only [List.map_toArray, List.map_cons, List.map_nil]); first | done | rfl | (simp only [List.length_drop, List.length_take]; rfl)) ?_; (with_reducible refine (impl_IsTablet.calls _ _ t126 false _ ?side1 ?side2 A3.out).mono ?_); (case side1 => repeat (first | exact (Kd.R_reads' HO128.out).2.2 | (with_reducible refine Kd.C_alloc ?_ _) | (with_reducible refine Kd.C_drewN ?_ _) | (with_reducible refine Kd.C_drew ?_))); (case side2 => exact (Kd.R_reads' HO128.out).2.1); rintro e w10 ⟨rfl, hb⟩; refine ⟨_, rfl, ?_⟩; have n0_ := Aside0.mk (Kd.R_below (by (with_reducible repeat (first | apply Kd.R_alloc | apply Kd.R_drewN | apply Kd.R_drew)); exact HO128.out) hb); have n1_ := Aside0.mk (below_step (by repeat (first | (with_reducible first | exact HB.out | apply below_alloc | apply pw_below_drewN | apply below_drew1) | exact HB.out)) hb); clear HO128; clear HB; have HO128 := n0_; have HB := n1_; clear n0_ n1_; (try clear hb); (try clear hb2); (try clear hk); (try clear hi)))
    go_ret2
    exact ⟨_, by first | rfl | (simp [errW_none, errW_some] <;> rfl) | (simp [*, errW_none, errW_some] <;> rfl), by first | exact Kd.R_nil _ _ _ _ _ | exact Kd.N_nil _ _ _ _ _ | exact Kd.V_nil _ _ _ _ _ | exact Kd.Q_nil _ _ _ _ _ | exact Kd.S_nil _ _ _ _ _, by repeat (first | (with_reducible first | exact HB.out | apply below_alloc | apply pw_below_drewN | apply below_drew1) | exact HB.out)⟩

end Go.Proofs.YtghfhcmjnpjgdaaDoor.P
