-- Laid by a program of this session (wip/pp.py) over the seat's translation, with its own texts for some functions.
import Derived.Test.YtnbmpdpcbndooaaDoorT0
import Derived.Test.YtnbmpdpcbndooaaDoorT10
namespace Go.Proofs.YtnbmpdpcbndooaaDoor.T
open Go.RowKit Go.Proofs.YtnbmpdpcbndooaaDoorW.PrintWords Go.Proofs.YtnbmpdpcbndooaaDoorW.PrintLast Go.Proofs.YtnbmpdpcbndooaaDoorW.PrintMore
attribute [local go_sem] max2_int min2_int max_two min_two max_three min_three max_four min_four   -- for this text's walks alone
set_option linter.unusedVariables false
set_option linter.unusedSimpArgs false

/-! ### strings_Trim: function 70 -/
/-! strings.Trim at a cutset of ASCII: the library's own proof, laid at this program's numbers. -/
def trimLays_ren : Go.Shelf.Ren := ⟨fun | 160 => 70 | 232 => 79 | 231 => 78 | 227 => 80 | 234 => 82 | 233 => 81 | 236 => 84 | 235 => 83 | 228 => 88 | 271 => 91 | 151 => 90 | 197 => 89 | 120 => 100 | 152 => 99 | 260 => 98 | 137 => 103 | 119 => 104 | 224 => 94 | 225 => 93 | 217 => 92 | 266 => 101 | n => n, fun | 9 => 9 | 4 => 4 | 3 => 3 | 5 => 5 | 117 => 94 | 116 => 93 | 0 => 0 | 124 => 97 | 21 => 21 | 105 => 100 | 46 => 104 | 119 => 112 | 139 => 115 | 138 => 114 | n => n, fun | 3 => 1 | 4 => 2 | n => n⟩
theorem trimLays : Go.Proofs.Lays.n160 Tryd.prog trimLays_ren := {
  mixed := by kernel_rfl
  f119 := Tryd.func104.trans (congrArg some (by kernel_rfl))
  f120 := Tryd.func100.trans (congrArg some (by kernel_rfl))
  f137 := Tryd.func103.trans (congrArg some (by kernel_rfl))
  f151 := Tryd.func90.trans (congrArg some (by kernel_rfl))
  f152 := Tryd.func99.trans (congrArg some (by kernel_rfl))
  f160 := Tryd.func70.trans (congrArg some (by kernel_rfl))
  f197 := Tryd.func89.trans (congrArg some (by kernel_rfl))
  f217 := Tryd.func92.trans (congrArg some (by kernel_rfl))
  f224 := Tryd.func94.trans (congrArg some (by kernel_rfl))
  f225 := Tryd.func93.trans (congrArg some (by kernel_rfl))
  f227 := Tryd.func80.trans (congrArg some (by kernel_rfl))
  f228 := Tryd.func88.trans (congrArg some (by kernel_rfl))
  f231 := Tryd.func78.trans (congrArg some (by kernel_rfl))
  f232 := Tryd.func79.trans (congrArg some (by kernel_rfl))
  f233 := Tryd.func81.trans (congrArg some (by kernel_rfl))
  f234 := Tryd.func82.trans (congrArg some (by kernel_rfl))
  f235 := Tryd.func83.trans (congrArg some (by kernel_rfl))
  f236 := Tryd.func84.trans (congrArg some (by kernel_rfl))
  f260 := Tryd.func98.trans (congrArg some (by kernel_rfl))
  f266 := Tryd.func101.trans (congrArg some (by kernel_rfl))
  f271 := Tryd.func91.trans (congrArg some (by kernel_rfl))
  t0 := Tryd.underlying0
  a0 := Tryd.isAgg0
  z0 := Tryd.sizeOf0
  v0 := Tryd.zeroValue0
  t3 := Tryd.underlying3
  a3 := Tryd.isAgg3
  z3 := Tryd.sizeOf3
  v3 := Tryd.zeroValue3
  t4 := Tryd.underlying4
  a4 := Tryd.isAgg4
  z4 := Tryd.sizeOf4
  v4 := Tryd.zeroValue4
  t5 := Tryd.underlying5
  a5 := Tryd.isAgg5
  z5 := Tryd.sizeOf5
  v5 := Tryd.zeroValue5
  t9 := Tryd.underlying9
  a9 := Tryd.isAgg9
  z9 := Tryd.sizeOf9
  v9 := Tryd.zeroValue9
  t21 := Tryd.underlying21
  a21 := Tryd.isAgg21
  z21 := Tryd.sizeOf21
  v21 := Tryd.zeroValue21
  t46 := Tryd.underlying104
  a46 := Tryd.isAgg104
  z46 := Tryd.sizeOf104
  v46 := Tryd.zeroValue104
  t105 := Tryd.underlying100
  a105 := Tryd.isAgg100
  z105 := Tryd.sizeOf100
  v105 := Tryd.zeroValue100
  t116 := Tryd.underlying93
  a116 := Tryd.isAgg93
  z116 := Tryd.sizeOf93
  t117 := Tryd.underlying94
  a117 := Tryd.isAgg94
  z117 := Tryd.sizeOf94
  v117 := Tryd.zeroValue94
  t119 := Tryd.underlying112
  a119 := Tryd.isAgg112
  z119 := Tryd.sizeOf112
  t124 := Tryd.underlying97
  a124 := Tryd.isAgg97
  z124 := Tryd.sizeOf97
  v124 := Tryd.zeroValue97
  t138 := Tryd.underlying114
  a138 := Tryd.isAgg114
  z138 := Tryd.sizeOf114
  v138 := Tryd.zeroValue114
  t139 := Tryd.underlying115
  a139 := Tryd.isAgg115
  z139 := Tryd.sizeOf115
  v139 := Tryd.zeroValue115
  g3 := by kernel_rfl
  g4 := by kernel_rfl }
def strings_Trim.f (l0 l1 : ByteArray) : Option ByteArray :=
  if l0.size ≤ 1099511627776 ∧ l1.size ≤ 1048576 ∧ l1.data.toList.all (fun b => decide (b.toNat < 128)) = true then some ⟨(Lib.trimS l0.data.toList l1.data.toList).toArray⟩ else none
theorem strings_Trim.calls (l0 l1 : ByteArray) (r : ByteArray) (w : World) (h : strings_Trim.f l0 l1 = some r) :
    Calls Tryd.prog 70 #[.string l0, .string l1] w fun e w' => e = .returned (.string r) ∧ Below w.heap.size w w' := by
  unfold strings_Trim.f at h
  split at h
  · rename_i g
    obtain rfl := Option.some.inj h
    exact Any.strings_Trim_laid trimLays (by kernel_rfl) l0 l1 w (by omega) (by omega) (ascii_of_all g.2.2)
  · cases h

/-! ### impl_areRows: function 63 -/
/-- What is asked of a predicate on texts: in every world in which what lay in w lies unturned, the call answers p at each text of a list. -/
def PredStr (g : Nat) (lb : Array Value) (p : ByteArray → Bool) (xs : List ByteArray) (w : World) : Prop :=
  ∀ (W : World) (x : ByteArray), x ∈ xs → Below w.heap.size w W → Calls Tryd.prog g (#[.string x] ++ lb) W fun e w' => e = .returned (.bool (p x)) ∧ Below w.heap.size w w'
def idxOfS (p : ByteArray → Bool) (xs : List ByteArray) : Int := if xs.any p then (xs.findIdx p : Int) else -1
theorem rdS_get (xs : List ByteArray) (j : Nat) (hj : j < xs.length) : rdOf ByteArray.empty xs (j : Int) = xs[j] := by
  simp [rdOf, List.getD_eq_getElem?_getD, List.getElem?_eq_getElem hj]
theorem idxOfS_hit (p : ByteArray → Bool) (xs : List ByteArray) (k : Nat) (hk : k < xs.length) (h : p (rdOf ByteArray.empty xs k) = true) (hb : ∀ j : Nat, j < k → p (rdOf ByteArray.empty xs j) = false) : idxOfS p xs = k := by
  have h1 : xs.findIdx p = k := by
    rw [List.findIdx_eq hk]
    exact ⟨by rw [← rdS_get xs k hk]; exact h, fun j hj => by rw [← rdS_get xs j (by omega)]; exact hb j hj⟩
  have h2 : xs.any p = true := by
    rw [List.any_eq_true]
    exact ⟨xs[k], List.getElem_mem hk, by rw [← rdS_get xs k hk]; exact h⟩
  unfold idxOfS
  rw [if_pos h2, h1]
theorem idxOfS_miss (p : ByteArray → Bool) (xs : List ByteArray) (hb : ∀ j : Nat, j < xs.length → p (rdOf ByteArray.empty xs j) = false) : xs.any p = false ∧ idxOfS p xs = -1 := by
  have h2 : xs.any p = false := by
    rw [List.any_eq_false]
    intro x hx
    obtain ⟨j, hj, rfl⟩ := List.getElem_of_mem hx
    have := hb j hj
    rw [rdS_get xs j hj] at this
    simp [this]
  exact ⟨h2, by unfold idxOfS; rw [if_neg (by simp [h2])]⟩
set_option maxHeartbeats 2000000 in
theorem indexFunc_str (g : Nat) (lb : Array Value) (p : ByteArray → Bool) (eg : ∀ args w, (callFunc g args).run Tryd.prog w = .ok (.enter g args) w) (A0 : Option Addr) (c0 : Nat) (xs : List ByteArray) (w : World)
    (hp : PredStr g lb p xs w) (hr : Kd.string.C w A0 xs.length xs) :
    Calls Tryd.prog 77 #[.slice A0 xs.length c0, .func (.func g) #[] lb] w fun e w' => e = .returned (.int .i64 (idxOfS p xs)) ∧ Below w.heap.size w w' := by
  have HR := Aside0.mk hr
  have HP := Aside0.mk hp
  have hm : xs.length ≤ 9223372036854775807 := hr.2.1
  clear hr hp
  go_enter Tryd.func77, Tryd.ntmps77
  go_wp2
  go_loopg [5, 8] xs.length (fun gg _ s8 wr => ∃ kk : Nat, kk ≤ xs.length ∧ xs.length - kk ≤ gg ∧ s8 = .int .i64 kk ∧ Aside0 (Below w.heap.size w wr) ∧ Aside0 (∀ j : Nat, j < kk → p (rdOf ByteArray.empty xs j) = false))
  case atStart => exact ⟨0, Nat.zero_le _, by omega, rfl, ⟨Below.refl _ w⟩, ⟨fun j hj => absurd hj (Nat.not_lt_zero _)⟩⟩
  case round =>
    obtain ⟨kk, hkk, hg, rfl, HB, HN⟩ := hrel
    by_cases hlt : kk < xs.length
    · have q1 : (kk : Int) < (xs.length : Int) := by omega
      have p1 : 0 ≤ (kk : Int) := by omega
      obtain ⟨ad, e1, hx⟩ := Kd.at_string (Kd.C_below HR.out HB.out) (kk : Int) p1 q1
      cases e1
      simp only [Int.toNat_natCast] at hx
      have hcall := HP.out wr (rdOf ByteArray.empty xs kk) (by rw [rdS_get xs kk hlt]; exact List.getElem_mem hlt) HB.out
      replace p1 := eq_true p1
      replace q1 := eq_true q1
      cases hq : p (rdOf ByteArray.empty xs kk) with
      | true =>
        rw [hq] at hcall
        have HQ := Aside0.mk hq
        clear hq
        go_wp2_with (go_at_fn g; (with_reducible refine hcall.mono ?_); rintro e w' ⟨rfl, hb'⟩)
        go_ret
        exact ⟨by rw [idxOfS_hit p xs kk hlt HQ.out HN.out]; rfl, hb'⟩
      | false =>
        rw [hq] at hcall
        have HQ := Aside0.mk hq
        clear hq
        go_wp2_with (go_at_fn g; (with_reducible refine hcall.mono ?_); rintro e w' ⟨rfl, hb'⟩)
        go_roundg (xs.length - (kk + 1))
        case measure => omega
        case rel =>
          refine ⟨kk + 1, by omega, by omega, by go_num, ⟨hb'⟩, ⟨fun j hj => ?_⟩⟩
          by_cases e : j = kk
          · subst e
            exact HQ.out
          · exact HN.out j (by omega)
    · have q1 : ¬ (kk : Int) < (xs.length : Int) := by omega
      have e1 : kk = xs.length := by omega
      have HQ := Aside0.mk e1
      clear e1
      go_wp2
      go_ret
      exact ⟨by rw [(idxOfS_miss p xs (fun j hj => HN.out j (by have := HQ.out; omega))).2]; rfl, HB.out⟩
theorem containsFunc_str (g : Nat) (lb : Array Value) (p : ByteArray → Bool) (eg : ∀ args w, (callFunc g args).run Tryd.prog w = .ok (.enter g args) w) (A0 : Option Addr) (c0 : Nat) (xs : List ByteArray) (w : World)
    (hp : PredStr g lb p xs w) (hr : Kd.string.C w A0 xs.length xs) :
    Calls Tryd.prog 68 #[.slice A0 xs.length c0, .func (.func g) #[] lb] w fun e w' => e = .returned (.bool (xs.any p)) ∧ Below w.heap.size w w' := by
  have HI := Aside0.mk (indexFunc_str g lb p eg A0 c0 xs w hp hr)
  have hz : decide (idxOfS p xs ≥ 0) = xs.any p := by
    unfold idxOfS
    cases h : xs.any p <;> simp
  clear hp hr
  have HZ := Aside0.mk hz
  clear hz
  go_enter Tryd.func68, Tryd.ntmps68
  go_wp2_with (go_at_call 77; (with_reducible refine HI.out.mono ?_); rintro e w' ⟨rfl, hb⟩)
  go_ret
  exact ⟨by rw [← HZ.out]; rfl, hb⟩
theorem within_dec (a b c : Int) : impl_within.f a b c = some (decide (b ≤ a ∧ a ≤ c)) := by
  unfold impl_within.f
  by_cases h : b ≤ a
  · rw [if_pos h]; simp [h]
  · rw [if_neg h]; simp [h]
/-- Is a row of another length than the first one, or too long, or with other signs? -/
def badRow (n0 : Nat) (most : Int) (signs : ByteArray) (x : ByteArray) : Bool :=
  !decide (x.size = n0) || (!decide (1 ≤ (x.size : Int) ∧ (x.size : Int) ≤ most) || !((⟨(Lib.trimS x.data.toList signs.data.toList).toArray⟩ : ByteArray)).toList.isEmpty)
set_option maxHeartbeats 2000000 in
set_option maxRecDepth 100000 in
theorem areRows_pred (A0 : Option Addr) (c0 : Nat) (l0 : List ByteArray) (a1 : Int) (a2 x : ByteArray) (b1 b2 b3 : Nat) (W : World) (h1 : W.cell? ⟨b1, 0, none⟩ = some (.slice A0 l0.length c0)) (h2 : W.cell? ⟨b2, 0, none⟩ = some (.int .i64 a1)) (h3 : W.cell? ⟨b3, 0, none⟩ = some (.string a2))
    (hr : Kd.string.C W A0 l0.length l0) (h0 : 0 < l0.length) (hm : a1 ≤ 1099511627776) (hs : a2.size ≤ 1048576) (ha : a2.data.toList.all (fun b => decide (b.toNat < 128)) = true) :
    Calls Tryd.prog 69 #[.string x, .pointer (some ⟨b1, 0, none⟩), .pointer (some ⟨b2, 0, none⟩), .pointer (some ⟨b3, 0, none⟩)] W fun e w' => e = .returned (.bool (badRow (rdOf ByteArray.empty l0 0).size a1 a2 x)) ∧ Below W.heap.size W w' := by
  obtain ⟨n0, hn0⟩ : ∃ n0, n0 = (rdOf ByteArray.empty l0 0).size := ⟨_, rfl⟩
  obtain ⟨y0, hy0⟩ : ∃ y0, y0 = rdOf ByteArray.empty l0 0 := ⟨_, rfl⟩
  have p1 : (0 : Int) ≤ (0 : Int) := by omega
  have q1 : (0 : Int) < (l0.length : Int) := by omega
  obtain ⟨ad, e1, hx⟩ := Kd.at_string hr (0 : Int) p1 q1
  subst e1
  rw [← hy0] at hx hn0
  rw [← hy0, ← hn0]
  replace hx : W.cell? (ad.add 0) = some (.string y0) := hx
  rw [show ad.add 0 = ad by cases ad; simp [Addr.add]] at hx
  clear hy0 hr
  by_cases c1 : x.size = n0
  · have c1a : ((x.size : Int) == (y0.size : Int)) = true := by rw [beq_iff_eq]; omega
    have c1c : ((x.size : Int) != (y0.size : Int)) = false := by rw [bne_eq_false_iff_eq]; omega
    have c1b : (x.size == y0.size) = true := by rw [beq_iff_eq]; omega
    have HC1 := Aside0.mk c1
    have HW := Aside0.mk (within_dec (x.size : Int) 1 a1)
    by_cases c2 : 1 ≤ (x.size : Int) ∧ (x.size : Int) ≤ a1
    · have HT := Aside0.mk (show strings_Trim.f x a2 = some ⟨(Lib.trimS x.data.toList a2.data.toList).toArray⟩ by unfold strings_Trim.f; rw [if_pos ⟨by omega, hs, ha⟩])
      have HB2 := Aside0.mk (show badRow n0 a1 a2 x = !((⟨(Lib.trimS x.data.toList a2.data.toList).toArray⟩ : ByteArray)).toList.isEmpty by unfold badRow; rw [decide_eq_true c1, decide_eq_true c2]; rfl)
      rw [decide_eq_true c2] at HW
      obtain ⟨z, hz⟩ : ∃ z : ByteArray, z = ⟨(Lib.trimS x.data.toList a2.data.toList).toArray⟩ := ⟨_, rfl⟩
      rw [← hz] at HT HB2
      clear hz c1 c2 hn0 ha hs hm
      go_enter Tryd.func69, Tryd.ntmps69
      go_wp2_with (first | (go_at_call 47; (with_reducible refine (impl_within.calls _ _ _ true _ HW.out).mono ?_); rintro e w' ⟨rfl, ⟨nd, rfl⟩⟩) | (go_at_call 70; (with_reducible refine (strings_Trim.calls _ _ _ _ HT.out).mono ?_); rintro e w' ⟨rfl, hd2⟩))
      go_ret
      exact ⟨by rw [HB2.out]; rfl, (pw_below_drewN (Below.refl _ _) nd).trans (hd2.mono (Nat.le_refl _))⟩
    · have HB2 := Aside0.mk (show badRow n0 a1 a2 x = true by unfold badRow; rw [decide_eq_true c1, decide_eq_false c2]; rfl)
      rw [decide_eq_false c2] at HW
      clear c1 c2 hn0 ha hs hm
      go_enter Tryd.func69, Tryd.ntmps69
      go_wp2_with (first | (go_at_call 47; (with_reducible refine (impl_within.calls _ _ _ false _ HW.out).mono ?_); rintro e w' ⟨rfl, ⟨nd, rfl⟩⟩))
      go_ret
      exact ⟨by rw [HB2.out]; rfl, pw_below_drewN (Below.refl _ _) nd⟩
  · have c1a : ((x.size : Int) == (y0.size : Int)) = false := by rw [beq_eq_false_iff_ne]; omega
    have c1c : ((x.size : Int) != (y0.size : Int)) = true := by rw [bne_iff_ne]; omega
    have c1b : (x.size == y0.size) = false := by rw [beq_eq_false_iff_ne]; omega
    have HB2 := Aside0.mk (show badRow n0 a1 a2 x = true by unfold badRow; rw [decide_eq_false c1]; rfl)
    clear c1 hn0 ha hs hm
    go_enter Tryd.func69, Tryd.ntmps69
    go_wp2
    go_ret
    exact ⟨by rw [HB2.out]; rfl, Below.refl _ _⟩
def impl_areRows.f (l0 : List ByteArray) (a1 : Int) (a2 : ByteArray) : Option (Bool) :=
  if a1 ≤ 1099511627776 ∧ a2.size ≤ 1048576 ∧ a2.data.toList.all (fun b => decide (b.toNat < 128)) = true then some (decide (1 ≤ (l0.length : Int) ∧ (l0.length : Int) ≤ a1) && !l0.any (badRow (rdOf ByteArray.empty l0 0).size a1 a2)) else none
set_option maxHeartbeats 2000000 in
theorem impl_areRows.calls (A0 : Option Addr) (c0 : Nat) (l0 : List ByteArray) (a1 : Int) (a2 : ByteArray) (r : Bool) (w : World) (hr0 : Kd.string.C w A0 l0.length l0) (hc0 : l0.length ≤ c0) (h : impl_areRows.f l0 a1 a2 = some r) :
    Calls Tryd.prog 63 #[.slice A0 l0.length c0, .int .i64 a1, .string a2] w fun e w' => e = .returned (.bool r) ∧ Below w.heap.size w w' := by
  unfold impl_areRows.f at h
  split at h
  case isFalse => cases h
  case isTrue g =>
  obtain ⟨q, hq⟩ : ∃ q, q = l0.any (badRow (rdOf ByteArray.empty l0 0).size a1 a2) := ⟨_, rfl⟩
  rw [← hq] at h
  have h := Option.some.inj h
  have hb0 : Below w.heap.size w (((w.alloc (.cells #[.slice A0 l0.length c0] 22)).alloc (.cells #[.int .i64 a1] 3)).alloc (.cells #[.string a2] 9)) := (((Below.refl _ w).alloc (Nat.le_refl _) _).alloc (by simp) _).alloc (by simp; omega) _
  have hw := within_dec (l0.length : Int) 1 a1
  by_cases c : 1 ≤ (l0.length : Int) ∧ (l0.length : Int) ≤ a1
  · have hd1 : ((w.alloc (.cells #[.slice A0 l0.length c0] 22)).alloc (.cells #[.int .i64 a1] 3)).cell? ⟨w.heap.size, 0, none⟩ = some (.slice A0 l0.length c0) := by simp
    have hd2 : ((w.alloc (.cells #[.slice A0 l0.length c0] 22)).alloc (.cells #[.int .i64 a1] 3)).cell? ⟨w.heap.size + 1, 0, none⟩ = some (.int .i64 a1) := by simp
    have hds : ((w.alloc (.cells #[.slice A0 l0.length c0] 22)).alloc (.cells #[.int .i64 a1] 3)).heap.size = w.heap.size + 2 := by simp
    obtain ⟨w3, hw3⟩ : ∃ w3, w3 = (((w.alloc (.cells #[.slice A0 l0.length c0] 22)).alloc (.cells #[.int .i64 a1] 3)).alloc (.cells #[.string a2] 9)) := ⟨_, rfl⟩
    rw [← hw3] at hb0
    obtain ⟨w2, hw2⟩ : ∃ w2, w2 = ((w.alloc (.cells #[.slice A0 l0.length c0] 22)).alloc (.cells #[.int .i64 a1] 3)) := ⟨_, rfl⟩
    have hw3' : w3 = w2.alloc (.cells #[.string a2] 9) := by rw [hw3, hw2]
    rw [← hw2] at hd1 hd2 hds
    have hB23 : Below w2.heap.size w2 w3 := by rw [hw3']; exact (Below.refl _ _).alloc (Nat.le_refl _) _
    have hc1 : w3.cell? ⟨w.heap.size, 0, none⟩ = some (.slice A0 l0.length c0) := (hB23.cell (p := ⟨w.heap.size, 0, none⟩) (by show w.heap.size < _; omega)).trans hd1
    have hc2 : w3.cell? ⟨w.heap.size + 1, 0, none⟩ = some (.int .i64 a1) := (hB23.cell (p := ⟨w.heap.size + 1, 0, none⟩) (by show w.heap.size + 1 < _; omega)).trans hd2
    have hc3 : w3.cell? ⟨w.heap.size + 2, 0, none⟩ = some (.string a2) := by rw [hw3', ← hds]; simp
    have hs : w3.heap.size = w.heap.size + 3 := by rw [hw3']; simp; omega
    clear hd1 hd2 hds hw2 hw3' hB23
    have HC : ∀ W : World, Below w3.heap.size w3 W → Calls Tryd.prog 68 #[.slice A0 l0.length c0, .func (.func 69) #[] #[.pointer (some ⟨w.heap.size, 0, none⟩), .pointer (some ⟨w.heap.size + 1, 0, none⟩), .pointer (some ⟨w.heap.size + 2, 0, none⟩)]] W fun e w' => e = .returned (.bool q) ∧ Below w.heap.size w w' := by
      intro W hW
      have hz := hW.size
      have hrW := Kd.C_below (Kd.C_below hr0 hb0) (hW.mono (by omega))
      have := containsFunc_str 69 #[.pointer (some ⟨w.heap.size, 0, none⟩), .pointer (some ⟨w.heap.size + 1, 0, none⟩), .pointer (some ⟨w.heap.size + 2, 0, none⟩)] (badRow (rdOf ByteArray.empty l0 0).size a1 a2) (enters_of Tryd.func69 (by kernel_rfl) rfl) A0 c0 l0 W
        (fun W2 x hx hW2 => by
          have hz2 := hW2.size
          refine (areRows_pred A0 c0 l0 a1 a2 x _ _ _ W2 ((hW2.cell (p := ⟨w.heap.size, 0, none⟩) (by show w.heap.size < _; omega)).trans ((hW.cell (p := ⟨w.heap.size, 0, none⟩) (by show w.heap.size < _; omega)).trans hc1))
            ((hW2.cell (p := ⟨w.heap.size + 1, 0, none⟩) (by show w.heap.size + 1 < _; omega)).trans ((hW.cell (p := ⟨w.heap.size + 1, 0, none⟩) (by show w.heap.size + 1 < _; omega)).trans hc2))
            ((hW2.cell (p := ⟨w.heap.size + 2, 0, none⟩) (by show w.heap.size + 2 < _; omega)).trans ((hW.cell (p := ⟨w.heap.size + 2, 0, none⟩) (by show w.heap.size + 2 < _; omega)).trans hc3))
            (Kd.C_below hrW hW2) (by omega) g.1 g.2.1 g.2.2).mono ?_
          rintro e w' ⟨rfl, hd⟩
          exact ⟨rfl, hW2.trans (hd.mono hz2)⟩) hrW
      rw [← hq] at this
      refine this.mono ?_
      rintro e w' ⟨rfl, hb⟩
      exact ⟨rfl, hb0.trans ((hW.mono (by omega)).trans (hb.mono (by omega)))⟩
    rw [hw3] at HC
    have HCC := Aside0.mk HC
    have HH := Aside0.mk (show r = !q by rw [← h, decide_eq_true c]; rfl)
    rw [decide_eq_true c] at hw
    have HW := Aside0.mk hw
    clear HC hc1 hc2 hc3 hs hw h hq hb0 hr0 hw3 g c
    go_enter Tryd.func63, Tryd.ntmps63
    go_wp2_with (first | (go_at_call 47; (with_reducible refine (impl_within.calls _ _ _ true _ HW.out).mono ?_); rintro e w' ⟨rfl, ⟨nd, rfl⟩⟩) | (go_at_call 68; (with_reducible refine (HCC.out _ (pw_below_drewN (Below.refl _ _) nd)).mono ?_); rintro e w' ⟨rfl, hb⟩))
    go_ret
    exact ⟨by rw [HH.out]; rfl, hb⟩
  · rw [decide_eq_false c] at hw h
    have HW := Aside0.mk hw
    have HB := Aside0.mk hb0
    obtain rfl : false = r := h
    clear hw h hq hb0 hr0 g c
    go_enter Tryd.func63, Tryd.ntmps63
    go_wp2_with (first | (go_at_call 47; (with_reducible refine (impl_within.calls _ _ _ false _ HW.out).mono ?_); rintro e w' ⟨rfl, ⟨nd, rfl⟩⟩))
    go_ret
    exact ⟨rfl, pw_below_drewN HB.out nd⟩

/-! ### impl_IsTablet: function 53 -/
def impl_IsTablet.f (l0 : List ByteArray) : Option (Bool) := (impl_areRows.f l0 10 (⟨#[35, 46]⟩ : ByteArray)).bind fun t191 => (some t191)
set_option maxHeartbeats 8000000 in
set_option maxRecDepth 100000 in
theorem impl_IsTablet.calls (A0 : Option Addr) (c0 : Nat) (l0 : List ByteArray) (r : Bool) (w : World) (hr0 : Kd.C Kd.string w A0 l0.length l0) (hc0 : l0.length ≤ c0) (h : impl_IsTablet.f l0 = some r) :
    Calls Tryd.prog 53 #[.slice A0 l0.length c0] w fun e w' => e = .returned (.bool r) ∧ Below w.heap.size w w' := by
  have HR0 := Aside0.mk hr0
  have HC0 := Aside0.mk hc0
  clear hr0 hc0
  have HB := Aside0.mk (Below.refl w.heap.size w)
  have H : ((impl_areRows.f l0 10 (⟨#[35, 46]⟩ : ByteArray)).bind fun t191 => (some t191)) = some r := h
  clear h
  replace H := Option.bind_eq_some_iff.mp H
  obtain ⟨t191, A20, H⟩ := H
  replace H : (some t191) = some r := H
  have A2 := Aside0.mk A20
  clear A20
  obtain rfl := Option.some.inj H
  go_enter Tryd.func53, Tryd.ntmps53
  go_wp2_with (first | ((with_reducible refine gate_callee (f := 63) rfl ?_); refine goesL_ (some 4) rfl rfl Tryd.func63 (by kernel_rfl) rfl #[.slice A0 l0.length c0, .int .i64 10, .string (⟨#[35, 46]⟩ : ByteArray)] rfl (by (try simp only [List.map_toArray, List.map_cons, List.map_nil]); first | done | rfl | (simp only [List.length_drop, List.length_take]; rfl)) ?_; (with_reducible refine (impl_areRows.calls _ _ l0 10 (⟨#[35, 46]⟩ : ByteArray) t191 _ ?side1 ?side2 A2.out).mono ?_); (case side1 => repeat (first | exact HR0.out | (with_reducible refine Kd.C_alloc ?_ _) | (with_reducible refine Kd.C_drewN ?_ _) | (with_reducible refine Kd.C_drew ?_))); (case side2 => exact HC0.out); rintro e w3 ⟨rfl, hb⟩; refine ⟨_, rfl, ?_⟩; have n0_ := Aside0.mk (below_step (by repeat (first | (with_reducible first | exact HB.out | apply below_alloc | apply pw_below_drewN | apply below_drew1) | exact HB.out)) hb); clear HB; have HB := n0_; clear n0_; (try clear hb); (try clear hb2); (try clear hk); (try clear hi)))
  go_ret
  exact ⟨by first | rfl | (simp [errW_none, errW_some] <;> rfl) | (simp [*, errW_none, errW_some] <;> rfl), by repeat (first | (with_reducible first | exact HB.out | apply below_alloc | apply pw_below_drewN | apply below_drew1) | exact HB.out)⟩

/-! ### impl_areMelting: function 40 -/
def impl_areMelting.f (l0 : List ByteArray) (a1 : Int) : Option (Bool) := (impl_IsTablet.f l0).bind fun t192 => (if t192 = true then ((impl_within.f a1 1 4).bind fun t193 => (some t193)) else (some false))
set_option maxHeartbeats 8000000 in
set_option maxRecDepth 100000 in
theorem impl_areMelting.calls (A0 : Option Addr) (c0 : Nat) (l0 : List ByteArray) (a1 : Int) (r : Bool) (w : World) (hr0 : Kd.C Kd.string w A0 l0.length l0) (hc0 : l0.length ≤ c0) (h : impl_areMelting.f l0 a1 = some r) :
    Calls Tryd.prog 40 #[.slice A0 l0.length c0, .int .i64 a1] w fun e w' => e = .returned (.bool r) ∧ Below w.heap.size w w' := by
  have HR0 := Aside0.mk hr0
  have HC0 := Aside0.mk hc0
  clear hr0 hc0
  have HB := Aside0.mk (Below.refl w.heap.size w)
  have H : ((impl_IsTablet.f l0).bind fun t192 => (if t192 = true then ((impl_within.f a1 1 4).bind fun t193 => (some t193)) else (some false))) = some r := h
  clear h
  replace H := Option.bind_eq_some_iff.mp H
  obtain ⟨t192, A30, H⟩ := H
  replace H : (if t192 = true then ((impl_within.f a1 1 4).bind fun t193 => (some t193)) else (some false)) = some r := H
  have A3 := Aside0.mk A30
  clear A30
  by_cases c4 : t192 = true
  · subst c4
    have H1 : ((impl_within.f a1 1 4).bind fun t193 => (some t193)) = some r := by rw [if_pos rfl] at H; exact H
    clear H
    have H := H1
    clear H1
    replace H := Option.bind_eq_some_iff.mp H
    obtain ⟨t193, A50, H⟩ := H
    replace H : (some t193) = some r := H
    have A5 := Aside0.mk A50
    clear A50
    obtain rfl := Option.some.inj H
    go_enter Tryd.func40, Tryd.ntmps40
    go_wp2_with (first | ((with_reducible refine gate_callee (f := 53) rfl ?_); refine goesL_ (some 6) rfl rfl Tryd.func53 (by kernel_rfl) rfl #[.slice A0 l0.length c0] rfl (by (try simp only [List.map_toArray, List.map_cons, List.map_nil]); first | done | rfl | (simp only [List.length_drop, List.length_take]; rfl)) ?_; (with_reducible refine (impl_IsTablet.calls _ _ l0 true _ ?side1 ?side2 A3.out).mono ?_); (case side1 => repeat (first | exact HR0.out | (with_reducible refine Kd.C_alloc ?_ _) | (with_reducible refine Kd.C_drewN ?_ _) | (with_reducible refine Kd.C_drew ?_))); (case side2 => exact HC0.out); rintro e w6 ⟨rfl, hb⟩; refine ⟨_, rfl, ?_⟩; have n0_ := Aside0.mk (below_step (by repeat (first | (with_reducible first | exact HB.out | apply below_alloc | apply pw_below_drewN | apply below_drew1) | exact HB.out)) hb); clear HB; have HB := n0_; clear n0_; (try clear hb); (try clear hb2); (try clear hk); (try clear hi)) | (go_at_call 47; (with_reducible refine (impl_within.calls a1 1 4 t193 _ A5.out).mono ?_); rintro e w' ⟨rfl, ⟨nd, rfl⟩⟩))
    go_ret
    exact ⟨by first | rfl | (simp [errW_none, errW_some] <;> rfl) | (simp [*, errW_none, errW_some] <;> rfl), by repeat (first | (with_reducible first | exact HB.out | apply below_alloc | apply pw_below_drewN | apply below_drew1) | exact HB.out)⟩
  · replace c4 := Bool.eq_false_iff.mpr c4
    subst c4
    have H1 : (some false) = some r := by rw [if_neg (show ¬ (false = true) by decide)] at H; exact H
    clear H
    have H := H1
    clear H1
    obtain rfl := Option.some.inj H
    go_enter Tryd.func40, Tryd.ntmps40
    go_wp2_with (first | ((with_reducible refine gate_callee (f := 53) rfl ?_); refine goesL_ (some 6) rfl rfl Tryd.func53 (by kernel_rfl) rfl #[.slice A0 l0.length c0] rfl (by (try simp only [List.map_toArray, List.map_cons, List.map_nil]); first | done | rfl | (simp only [List.length_drop, List.length_take]; rfl)) ?_; (with_reducible refine (impl_IsTablet.calls _ _ l0 false _ ?side1 ?side2 A3.out).mono ?_); (case side1 => repeat (first | exact HR0.out | (with_reducible refine Kd.C_alloc ?_ _) | (with_reducible refine Kd.C_drewN ?_ _) | (with_reducible refine Kd.C_drew ?_))); (case side2 => exact HC0.out); rintro e w7 ⟨rfl, hb⟩; refine ⟨_, rfl, ?_⟩; have n0_ := Aside0.mk (below_step (by repeat (first | (with_reducible first | exact HB.out | apply below_alloc | apply pw_below_drewN | apply below_drew1) | exact HB.out)) hb); clear HB; have HB := n0_; clear n0_; (try clear hb); (try clear hb2); (try clear hk); (try clear hi)))
    go_ret
    exact ⟨by first | rfl | (simp [errW_none, errW_some] <;> rfl) | (simp [*, errW_none, errW_some] <;> rfl), by repeat (first | (with_reducible first | exact HB.out | apply below_alloc | apply pw_below_drewN | apply below_drew1) | exact HB.out)⟩

/-! ### slices_Clone_string_string: function 48 -/
def slices_Clone_string_string.f (l0 : List ByteArray) : Option (List ByteArray) := if l0.length ≤ 1048576 then some l0 else none
set_option maxHeartbeats 4000000 in
set_option maxRecDepth 100000 in
theorem slices_Clone_string_string.calls (A0 : Option Addr) (c0 : Nat) (l0 : List ByteArray) (r : List ByteArray) (w : World) (hr0 : Kd.C Kd.string w A0 l0.length l0) (hc0 : l0.length ≤ c0) (h : slices_Clone_string_string.f l0 = some r) :
    Calls Tryd.prog 48 #[.slice A0 l0.length c0] w fun e w' => ∃ v0_ : Value, e = .returned (v0_) ∧ Kd.R Kd.string 9 w' w.heap.size (fun _ => True) v0_ r ∧ Below w.heap.size w w' := by
  have hl : l0.length ≤ 1048576 := by
    unfold slices_Clone_string_string.f at h
    by_cases g : l0.length ≤ 1048576
    · exact g
    · rw [if_neg g] at h; cases h
  have e : l0 = r := by
    unfold slices_Clone_string_string.f at h
    rw [if_pos hl] at h
    exact Option.some.inj h
  subst e
  clear h
  have HR0 := Aside0.mk hr0
  have HB := Aside0.mk (Below.refl w.heap.size w)
  have HL := Aside0.mk hl
  cases A0 with
  | none =>
    have h0 : l0.length = 0 := by
      rcases Nat.eq_zero_or_pos l0.length with h0 | h0
      · exact h0
      · obtain ⟨ad, h, _⟩ := hr0.2.2 h0
        cases h
    obtain rfl : l0 = [] := List.eq_nil_of_length_eq_zero h0
    clear hr0 hc0 h0 hl
    have hnil := fun (W : World) => Lib.run_eql_slice_nil (P := Tryd.prog) W 22 9 none 0 c0 0 0 Tryd.underlying22
    go_enter Tryd.func48, Tryd.ntmps48
    go_wp2
    go_ret
    exact ⟨_, rfl, Kd.R_nil _ _ _ _ _, by repeat (first | exact HB.out | apply pw_below_drewN | apply below_drew1)⟩
  | some ad =>
    clear hr0 hc0 hl
    have hnil := fun (W : World) => Lib.run_eql_slice_nil (P := Tryd.prog) W 22 9 (some ad) l0.length c0 0 0 Tryd.underlying22
    go_enter Tryd.func48, Tryd.ntmps48
    go_wp2_with (first | ((with_reducible refine gate_dst (N := 5) rfl ?_); refine Kd.R_lit Kd.string _ 9 ?hg (N := 5) ?hd (xs := ([] : List ByteArray)) (inner := []) (ok := fun _ => True) (okp := fun _ => True) ?hr ?hp (fun _ hk => hk) trivial (Below.refl _ _) (Nat.le_refl _) (by simp) ?_; (case hd => rfl); (case hg => rfl); (case hr => first | (go_simp; done) | (go_simp; rfl)); (case hp => exact (Reps.none _ _)); intro v114 w3 ho4 hb hg_ hnew_; clear hg_ hnew_; have n0_ := Aside0.mk (Kd.R_lower ho4 (below_size (by repeat (first | (with_reducible first | exact HB.out | apply below_alloc | apply pw_below_drewN | apply below_drew1) | exact HB.out)))); have n1_ := Aside0.mk (below_step (by repeat (first | (with_reducible first | exact HB.out | apply below_alloc | apply pw_below_drewN | apply below_drew1) | exact HB.out)) hb); clear HB; have HO115 := n0_; have HB := n1_; clear n0_ n1_; clear hb ho4) | ((with_reducible refine gate_builtin (b := .append) (xs := #[.tmp 5, .tmp 6]) rfl ?_); at_builtin; refine Kd.R_append_rows Kd.string (w0 := w) w.heap.size rfl (.tmp 5) (.tmp 6) 22 9 (.string ⟨#[]⟩) 16 rfl Tryd.underlying22 info9 rfl (by decide) (by omega) v114 [] l0 _ _ _ (fun _ => True) (fun _ => False) rfl rfl ?aO ?aR (fun _ _ h => h) (fun _ h => h.elim) ?aF ?aB ?aS ?aL ?_; (case aR => repeat (first | exact (Kd.C_below HR0.out HB.out) | (with_reducible refine Kd.C_alloc ?_ _) | (with_reducible refine Kd.C_drewN ?_ _) | (with_reducible refine Kd.C_drew ?_))); (case aB => exact (by repeat (first | (with_reducible first | exact HB.out | apply below_alloc | apply pw_below_drewN | apply below_drew1) | exact HB.out))); (case aF => exact (fun _ _ => trivial)); (case aO => exact (by (with_reducible repeat (first | apply Kd.R_alloc | apply Kd.R_drewN | apply Kd.R_drew)); exact HO115.out)); (case aS => exact (below_size (by repeat (first | (with_reducible first | exact HB.out | apply below_alloc | apply pw_below_drewN | apply below_drew1) | exact HB.out)))); (case aL => have := HL.out; simp; omega); intro v117 w5 ho hb hg hat; rw [List.nil_append] at ho; have n0_ := Aside0.mk (hb); have n1_ := Aside0.mk (ho); clear HB; clear HO115; have HB := n0_; have HO118 := n1_; clear n0_ n1_; clear ho hb hg hat))
    go_ret
    exact ⟨_, rfl, HO118.out, HB.out⟩

end Go.Proofs.YtnbmpdpcbndooaaDoor.T
