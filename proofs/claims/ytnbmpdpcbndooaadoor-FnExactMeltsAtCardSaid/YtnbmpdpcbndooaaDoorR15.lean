-- Laid by a program of this session (wip/pp.py) over the seat's translation, with its own texts for some functions.
import Derived.Test.YtnbmpdpcbndooaaDoorR0
import Derived.Test.YtnbmpdpcbndooaaDoorR10
import Derived.Test.YtnbmpdpcbndooaaDoorR14
namespace Go.Proofs.YtnbmpdpcbndooaaDoor.R
open Go.RowKit Go.Proofs.YtnbmpdpcbndooaaDoorW.PrintWords Go.Proofs.YtnbmpdpcbndooaaDoorW.PrintLast Go.Proofs.YtnbmpdpcbndooaaDoorW.PrintMore
attribute [local go_sem] max2_int min2_int max_two min_two max_three min_three max_four min_four   -- for this text's walks alone
set_option linter.unusedVariables false
set_option linter.unusedSimpArgs false

/-! ### impl_MeltsAt: function 18 -/
theorem row_get {w : World} {A : Option Addr} {n : Nat} {xs : List (List Int)} (h : Kd.C (Kd.slice 3 (Kd.int .i64)) w A n xs) (i : Nat) (hi : i < xs.length) (h1 : (i : Int) < n) : ∃ ad A0 c0, A = some ad ∧ w.cell? (ad.add i) = some (.slice A0 xs[i].length c0) ∧ xs[i].length ≤ c0 ∧ (Kd.int .i64).C w A0 xs[i].length xs[i] := by
  obtain ⟨ad, c, e, _, hK, hc0⟩ := Kd.C_get h ([] : List Int) (i : Int) (by omega) h1
  have hc : ∀ j u, c[j]? = some u → w.cell? (ad.add (i * 1 + j)) = some u := hc0
  have e2 : xs.getD (i : Int).toNat [] = xs[i] := by simp [List.getD_eq_getElem?_getD, List.getElem?_eq_getElem hi]
  rw [e2] at hK
  obtain ⟨A0, c0, rfl, l0, g0⟩ := hK
  exact ⟨ad, A0, c0, e, by have hq := hc 0 _ rfl; rwa [Nat.mul_one, Nat.add_zero] at hq, l0, g0⟩
/-- What is asked of a predicate on rows. -/
def PredRow (g : Nat) (lb : Array Value) (p : List Int → Bool) (xs : List (List Int)) (w : World) : Prop :=
  ∀ (W : World) (x : List Int) (A : Option Addr) (c : Nat), x ∈ xs → Kd.C (Kd.int .i64) W A x.length x → x.length ≤ c → Below w.heap.size w W → Calls Tryd.prog g (#[.slice A x.length c] ++ lb) W fun e w' => e = .returned (.bool (p x)) ∧ Below w.heap.size w w'
def idxOfR (p : List Int → Bool) (xs : List (List Int)) : Int := if xs.any p then (xs.findIdx p : Int) else -1
theorem idxOfR_hit (p : List Int → Bool) (xs : List (List Int)) (k : Nat) (hk : k < xs.length) (h : p xs[k] = true) (hb : ∀ (j : Nat) (hj : j < xs.length), j < k → p xs[j] = false) : idxOfR p xs = k := by
  have h1 : xs.findIdx p = k := by
    rw [List.findIdx_eq hk]
    exact ⟨h, fun j hj => hb j (by omega) hj⟩
  have h2 : xs.any p = true := by
    rw [List.any_eq_true]
    exact ⟨xs[k], List.getElem_mem hk, h⟩
  unfold idxOfR
  rw [if_pos h2, h1]
theorem idxOfR_miss (p : List Int → Bool) (xs : List (List Int)) (hb : ∀ (j : Nat) (hj : j < xs.length), p xs[j] = false) : idxOfR p xs = -1 := by
  have h2 : xs.any p = false := by
    rw [List.any_eq_false]
    intro x hx
    obtain ⟨j, hj, rfl⟩ := List.getElem_of_mem hx
    simp [hb j hj]
  unfold idxOfR
  rw [if_neg (by simp [h2])]
set_option maxHeartbeats 2000000 in
theorem indexFunc_row (g : Nat) (lb : Array Value) (p : List Int → Bool) (eg : ∀ args w, (callFunc g args).run Tryd.prog w = .ok (.enter g args) w) (A0 : Option Addr) (c0 : Nat) (xs : List (List Int)) (w : World)
    (hp : PredRow g lb p xs w) (hr : Kd.C (Kd.slice 3 (Kd.int .i64)) w A0 xs.length xs) :
    Calls Tryd.prog 58 #[.slice A0 xs.length c0, .func (.func g) #[] lb] w fun e w' => e = .returned (.int .i64 (idxOfR p xs)) ∧ Below w.heap.size w w' := by
  have HR := Aside0.mk hr
  have HP := Aside0.mk hp
  have hm : xs.length ≤ 9223372036854775807 := hr.2.1
  clear hr hp
  go_enter Tryd.func58, Tryd.ntmps58
  go_wp2
  go_loopg [5, 8] xs.length (fun gg _ s8 wr => ∃ kk : Nat, kk ≤ xs.length ∧ xs.length - kk ≤ gg ∧ s8 = .int .i64 kk ∧ Aside0 (Below w.heap.size w wr) ∧ Aside0 (∀ (j : Nat) (hj : j < xs.length), j < kk → p xs[j] = false))
  case atStart => exact ⟨0, Nat.zero_le _, by omega, rfl, ⟨Below.refl _ w⟩, ⟨fun j _ hj => absurd hj (Nat.not_lt_zero _)⟩⟩
  case round =>
    obtain ⟨kk, hkk, hg, rfl, HB, HN⟩ := hrel
    by_cases hlt : kk < xs.length
    · have q1 : (kk : Int) < (xs.length : Int) := by omega
      have p1 : 0 ≤ (kk : Int) := by omega
      obtain ⟨ad, Ax, cx, e1, hx, hcx, hC⟩ := row_get (Kd.C_below HR.out HB.out) kk hlt q1
      cases e1
      obtain ⟨row, hrow⟩ : ∃ row, row = xs[kk] := ⟨_, rfl⟩
      rw [← hrow] at hx hcx hC
      have hcall := HP.out wr row Ax cx (by rw [hrow]; exact List.getElem_mem hlt) hC hcx HB.out
      have HROW := Aside0.mk hrow
      have HLT := Aside0.mk hlt
      replace p1 := eq_true p1
      replace q1 := eq_true q1
      clear hrow hC hcx
      cases hq : p row with
      | true =>
        rw [hq] at hcall
        have HQ := Aside0.mk hq
        clear hq
        go_wp2_with (go_at_fn g; (with_reducible refine hcall.mono ?_); rintro e w' ⟨rfl, hb'⟩)
        go_ret
        exact ⟨by rw [idxOfR_hit p xs kk HLT.out (by rw [← HROW.out]; exact HQ.out) HN.out]; rfl, hb'⟩
      | false =>
        rw [hq] at hcall
        have HQ := Aside0.mk hq
        clear hq
        go_wp2_with (go_at_fn g; (with_reducible refine hcall.mono ?_); rintro e w' ⟨rfl, hb'⟩)
        go_roundg (xs.length - (kk + 1))
        case measure => have := HLT.out; omega
        case rel =>
          refine ⟨kk + 1, by have := HLT.out; omega, by omega, by go_num, ⟨hb'⟩, ⟨fun j hj1 hj => ?_⟩⟩
          by_cases e : j = kk
          · subst e
            rw [← HROW.out]; exact HQ.out
          · exact HN.out j hj1 (by omega)
    · have q1 : ¬ (kk : Int) < (xs.length : Int) := by omega
      have e1 : kk = xs.length := by omega
      have HQ := Aside0.mk e1
      clear e1
      go_wp2
      go_ret
      exact ⟨by rw [idxOfR_miss p xs (fun j hj => HN.out j hj (by have := HQ.out; omega))]; rfl, HB.out⟩
theorem containsFunc_row (g : Nat) (lb : Array Value) (p : List Int → Bool) (eg : ∀ args w, (callFunc g args).run Tryd.prog w = .ok (.enter g args) w) (A0 : Option Addr) (c0 : Nat) (xs : List (List Int)) (w : World)
    (hp : PredRow g lb p xs w) (hr : Kd.C (Kd.slice 3 (Kd.int .i64)) w A0 xs.length xs) :
    Calls Tryd.prog 43 #[.slice A0 xs.length c0, .func (.func g) #[] lb] w fun e w' => e = .returned (.bool (xs.any p)) ∧ Below w.heap.size w w' := by
  have HI := Aside0.mk (indexFunc_row g lb p eg A0 c0 xs w hp hr)
  have hz : decide (idxOfR p xs ≥ 0) = xs.any p := by
    unfold idxOfR
    cases h : xs.any p <;> simp
  clear hp hr
  have HZ := Aside0.mk hz
  clear hz
  go_enter Tryd.func43, Tryd.ntmps43
  go_wp2_with (go_at_call 58; (with_reducible refine HI.out.mono ?_); rintro e w' ⟨rfl, hb⟩)
  go_ret
  exact ⟨by rw [← HZ.out]; rfl, hb⟩
def meltsAt1.T1 : Bool × List (List Nat × List Nat) := (true, [([], []), ([0], [0]), ([1], [1]), ([], []), ([2, 3], [2, 3]), ([4], [4]), ([5], [5]), ([6, 5], [5, 6]), ([7, 5], [5, 7]), ([5], [5]), ([8, 9, 5], [5, 8, 9]), ([5, 10], [5, 10]), ([11, 5, 0, 1, 2, 3, 4, 5, 6, 7, 8, 9, 10, 11], [11])])
def meltsAt1.B1 : List Nat := [0, 1, 3, 0, 15, 31, 63, 127, 255, 63, 1023, 2047, 4095]
theorem meltsAt1.tab1 : rtab .any (opsOf Tryd.f44 1) = meltsAt1.T1 := by kernel_rfl
theorem meltsAt1.bits1 : waitsOk meltsAt1.T1.2 meltsAt1.B1 = true := by kernel_rfl
/-- Is a row a place's? -/
def isAt (x y : Int) (p : List Int) : Bool := decide (rd p 0 = x) && decide (rd p 1 = y)
set_option maxHeartbeats 2000000 in
set_option maxRecDepth 100000 in
theorem meltsAt_pred (x y : Int) (b1 b2 : Nat) (p : List Int) (A : Option Addr) (c : Nat) (W : World) (h1 : W.cell? ⟨b1, 0, none⟩ = some (.int .i64 x)) (h2 : W.cell? ⟨b2, 0, none⟩ = some (.int .i64 y)) (hp : 1 < p.length) (hC : Kd.C (Kd.int .i64) W A p.length p) :
    Calls Tryd.prog 44 #[.slice A p.length c, .pointer (some ⟨b1, 0, none⟩), .pointer (some ⟨b2, 0, none⟩)] W fun e w' => e = .returned (.bool (isAt x y p)) ∧ Below W.heap.size W w' := by
  obtain ⟨ad, e0, hx0⟩ := Kd.at_int hC 0 (by omega) (by omega)
  obtain ⟨ad', e1, hx1⟩ := Kd.at_int hC 1 (by omega) (by omega)
  subst e0
  obtain rfl := Option.some.inj e1
  rw [show (0 : Int).toNat = 0 from rfl, Addr.add_zero'] at hx0
  (try simp only [show (1 : Int).toNat = 1 from rfl, Nat.reduceMul, Nat.reduceEqDiff, Go.Addr.add, ↓reduceIte] at hx1)
  have q0 : (0 < p.length) = True := eq_true (by omega)
  have q1 : (1 < p.length) = True := eq_true hp
  have q1i : ((1 : Int) < (p.length : Int)) = True := eq_true (by omega)
  obtain ⟨u, hu⟩ : ∃ u, u = rd p 0 := ⟨_, rfl⟩
  obtain ⟨v, hv⟩ : ∃ v, v = rd p 1 := ⟨_, rfl⟩
  have HIS := Aside0.mk (show isAt x y p = (decide (u = x) && decide (v = y)) by rw [hu, hv]; rfl)
  rw [← hu] at hx0
  rw [← hv] at hx1
  clear hu hv hC hp e1
  by_cases c1 : u = x
  · have c1b : (u == x) = true := beq_iff_eq.mpr c1
    have HI2 := Aside0.mk (show isAt x y p = decide (v = y) by rw [HIS.out, decide_eq_true c1]; rfl)
    clear c1
    go_enter Tryd.func44, Tryd.ntmps44
    go_wp2
    refine start_ (n := 13) (S := fun w' => w'.cell? ad = some (.int .i64 u) ∧ w'.cell? ⟨ad.block, ad.off + 1, none⟩ = some (.int .i64 v) ∧ w'.cell? ⟨b1, 0, none⟩ = some (.int .i64 x) ∧ w'.cell? ⟨b2, 0, none⟩ = some (.int .i64 y)) (ds := []) #[false, false, false, false, false, false, false, false, false, false, false, false, false] (by kernel_rfl) rfl rfl ⟨hx0, hx1, h1, h2⟩ (fun hHeld => ?_); refine with_tabW meltsAt1.tab1 meltsAt1.bits1 (fun HT_ HW_ => ?_)
    have HD := Aside0.mk (below_drew1 (Below.refl W.heap.size W))
    clear h1 h2 hx0 hx1
    generalize W.drew = w3 at HD hHeld ⊢
    refine pure_ (i := 0) (N := some 5) (v := ?_) (a' := ?_) #[true, false, false, false, false, false, false, false, false, false, false, false, false] rfl rfl (any_of HT_.out (by kernel_rfl)) (fun _ _ _ h => h) (Or.inl ⟨by rfl, ?_⟩) ?_ ?_
    rotate_left
    · intro w'
      go_simp
      with_reducible rfl
    rotate_left
    · simp only [Act.put, List.setIfInBounds_toArray, List.set_cons_zero, List.set_cons_succ, i64_w, i32_w]
      rfl
    refine pure_ (i := 1) (N := some 6) (v := ?_) (a' := ?_) #[true, true, false, false, false, false, false, false, false, false, false, false, false] rfl rfl (any_of HT_.out (by kernel_rfl)) (fun _ _ _ h => h) (Or.inl ⟨by rfl, ?_⟩) ?_ ?_
    rotate_left
    · intro w'
      go_simp
      with_reducible rfl
    rotate_left
    · simp only [Act.put, List.setIfInBounds_toArray, List.set_cons_zero, List.set_cons_succ, i64_w, i32_w]
      rfl
    refine take_ (i := 2) (N := some 7) (v := ?_) (a' := ?_) #[true, true, true, false, false, false, false, false, false, false, false, false, false] rfl rfl (take_ofW HT_.out HW_.out (by kernel_rfl)) (fun _ _ _ h => h) (Or.inl ⟨by rfl, ?_⟩) hHeld ?_ ?_
    rotate_left
    · rintro w' ⟨s0, s1, s2, s3⟩
      go_simp
      with_reducible rfl
    rotate_left
    · simp only [Act.put, List.setIfInBounds_toArray, List.set_cons_zero, List.set_cons_succ, i64_w, i32_w]
      rfl
    refine take_ (i := 3) (N := some 8) (v := ?_) (a' := ?_) #[true, true, true, true, false, false, false, false, false, false, false, false, false] rfl rfl (take_ofW HT_.out HW_.out (by kernel_rfl)) (fun _ _ _ h => h) (Or.inl ⟨by rfl, ?_⟩) hHeld ?_ ?_
    rotate_left
    · rintro w' ⟨s0, s1, s2, s3⟩
      go_simp
      with_reducible rfl
    rotate_left
    · simp only [Act.put, List.setIfInBounds_toArray, List.set_cons_zero, List.set_cons_succ, i64_w, i32_w]
      rfl
    refine pure_ (i := 4) (N := some 9) (v := ?_) (a' := ?_) #[true, true, true, true, true, false, false, false, false, false, false, false, false] rfl rfl (any_of HT_.out (by kernel_rfl)) (fun _ _ _ h => h) (Or.inl ⟨by rfl, ?_⟩) ?_ ?_
    rotate_left
    · intro w'
      go_simp
      with_reducible rfl
    rotate_left
    · simp only [Act.put, List.setIfInBounds_toArray, List.set_cons_zero, List.set_cons_succ, i64_w, i32_w]
      rfl
    refine pure_ (i := 5) (N := some 10) (v := ?_) (a' := ?_) #[true, true, true, true, true, true, false, false, false, false, false, false, false] rfl rfl (any_of HT_.out (by kernel_rfl)) (fun _ _ _ h => h) (Or.inl ⟨by rfl, ?_⟩) ?_ ?_
    rotate_left
    · intro w'
      go_simp
      with_reducible rfl
    rotate_left
    · simp only [Act.put, List.setIfInBounds_toArray, List.set_cons_zero, List.set_cons_succ, i64_w, i32_w]
      rfl
    refine pure_ (i := 6) (N := some 11) (v := ?_) (a' := ?_) #[true, true, true, true, true, true, true, false, false, false, false, false, false] rfl rfl (any_of HT_.out (by kernel_rfl)) (fun _ _ _ h => h) (Or.inl ⟨by rfl, ?_⟩) ?_ ?_
    rotate_left
    · intro w'
      go_simp
      with_reducible rfl
    rotate_left
    · simp only [Act.put, List.setIfInBounds_toArray, List.set_cons_zero, List.set_cons_succ, i64_w, i32_w]
      rfl
    refine pure_ (i := 7) (N := some 12) (v := ?_) (a' := ?_) #[true, true, true, true, true, true, true, true, false, false, false, false, false] rfl rfl (any_of HT_.out (by kernel_rfl)) (fun _ _ _ h => h) (Or.inl ⟨by rfl, ?_⟩) ?_ ?_
    rotate_left
    · intro w'
      go_simp
      with_reducible rfl
    rotate_left
    · simp only [Act.put, List.setIfInBounds_toArray, List.set_cons_zero, List.set_cons_succ, i64_w, i32_w]
      rfl
    refine take_ (i := 8) (N := some 13) (v := ?_) (a' := ?_) #[true, true, true, true, true, true, true, true, true, false, false, false, false] rfl rfl (take_ofW HT_.out HW_.out (by kernel_rfl)) (fun _ _ _ h => h) (Or.inl ⟨by rfl, ?_⟩) hHeld ?_ ?_
    rotate_left
    · rintro w' ⟨s0, s1, s2, s3⟩
      go_simp
      with_reducible rfl
    rotate_left
    · simp only [Act.put, List.setIfInBounds_toArray, List.set_cons_zero, List.set_cons_succ, i64_w, i32_w]
      rfl
    refine take_ (i := 9) (N := some 14) (v := ?_) (a' := ?_) #[true, true, true, true, true, true, true, true, true, true, false, false, false] rfl rfl (take_ofW HT_.out HW_.out (by kernel_rfl)) (fun _ _ _ h => h) (Or.inl ⟨by rfl, ?_⟩) hHeld ?_ ?_
    rotate_left
    · rintro w' ⟨s0, s1, s2, s3⟩
      go_simp
      with_reducible rfl
    rotate_left
    · simp only [Act.put, List.setIfInBounds_toArray, List.set_cons_zero, List.set_cons_succ, i64_w, i32_w]
      rfl
    refine pure_ (i := 10) (N := some 15) (v := ?_) (a' := ?_) #[true, true, true, true, true, true, true, true, true, true, true, false, false] rfl rfl (any_of HT_.out (by kernel_rfl)) (fun _ _ _ h => h) (Or.inl ⟨by rfl, ?_⟩) ?_ ?_
    rotate_left
    · intro w'
      go_simp
      with_reducible rfl
    rotate_left
    · simp only [Act.put, List.setIfInBounds_toArray, List.set_cons_zero, List.set_cons_succ, i64_w, i32_w]
      rfl
    refine pure_ (i := 11) (N := some 16) (v := ?_) (a' := ?_) #[true, true, true, true, true, true, true, true, true, true, true, true, false] rfl rfl (any_of HT_.out (by kernel_rfl)) (fun _ _ _ h => h) (Or.inl ⟨by rfl, ?_⟩) ?_ ?_
    rotate_left
    · intro w'
      go_simp
      with_reducible rfl
    rotate_left
    · simp only [Act.put, List.setIfInBounds_toArray, List.set_cons_zero, List.set_cons_succ, i64_w, i32_w]
      rfl
    refine pure_ (i := 12) (N := some 4) (v := ?_) (a' := ?_) #[true, true, true, true, true, true, true, true, true, true, true, true, true] rfl rfl (any_of HT_.out (by kernel_rfl)) (fun _ _ _ h => h) (Or.inl ⟨by rfl, ?_⟩) ?_ ?_
    rotate_left
    · intro w'
      go_simp
      with_reducible rfl
    rotate_left
    · simp only [Act.put, List.setIfInBounds_toArray, List.set_cons_zero, List.set_cons_succ, i64_w, i32_w]
      rfl
    refine done_ (done_of HT_.out (by kernel_rfl)) ?_
    go_wp2
    go_ret
    exact ⟨by rw [HI2.out]; rfl, HD.out⟩
  · have c1b : (u == x) = false := beq_eq_false_iff_ne.mpr c1
    have HI2 := Aside0.mk (show isAt x y p = false by rw [HIS.out, decide_eq_false c1]; rfl)
    clear c1
    go_enter Tryd.func44, Tryd.ntmps44
    go_wp2
    refine start_ (n := 13) (S := fun w' => w'.cell? ad = some (.int .i64 u) ∧ w'.cell? ⟨ad.block, ad.off + 1, none⟩ = some (.int .i64 v) ∧ w'.cell? ⟨b1, 0, none⟩ = some (.int .i64 x) ∧ w'.cell? ⟨b2, 0, none⟩ = some (.int .i64 y)) (ds := []) #[false, false, false, false, false, false, false, false, false, false, false, false, false] (by kernel_rfl) rfl rfl ⟨hx0, hx1, h1, h2⟩ (fun hHeld => ?_); refine with_tabW meltsAt1.tab1 meltsAt1.bits1 (fun HT_ HW_ => ?_)
    have HD := Aside0.mk (below_drew1 (Below.refl W.heap.size W))
    clear h1 h2 hx0 hx1
    generalize W.drew = w3 at HD hHeld ⊢
    refine pure_ (i := 0) (N := some 5) (v := ?_) (a' := ?_) #[true, false, false, false, false, false, false, false, false, false, false, false, false] rfl rfl (any_of HT_.out (by kernel_rfl)) (fun _ _ _ h => h) (Or.inl ⟨by rfl, ?_⟩) ?_ ?_
    rotate_left
    · intro w'
      go_simp
      with_reducible rfl
    rotate_left
    · simp only [Act.put, List.setIfInBounds_toArray, List.set_cons_zero, List.set_cons_succ, i64_w, i32_w]
      rfl
    refine pure_ (i := 1) (N := some 6) (v := ?_) (a' := ?_) #[true, true, false, false, false, false, false, false, false, false, false, false, false] rfl rfl (any_of HT_.out (by kernel_rfl)) (fun _ _ _ h => h) (Or.inl ⟨by rfl, ?_⟩) ?_ ?_
    rotate_left
    · intro w'
      go_simp
      with_reducible rfl
    rotate_left
    · simp only [Act.put, List.setIfInBounds_toArray, List.set_cons_zero, List.set_cons_succ, i64_w, i32_w]
      rfl
    refine take_ (i := 2) (N := some 7) (v := ?_) (a' := ?_) #[true, true, true, false, false, false, false, false, false, false, false, false, false] rfl rfl (take_ofW HT_.out HW_.out (by kernel_rfl)) (fun _ _ _ h => h) (Or.inl ⟨by rfl, ?_⟩) hHeld ?_ ?_
    rotate_left
    · rintro w' ⟨s0, s1, s2, s3⟩
      go_simp
      with_reducible rfl
    rotate_left
    · simp only [Act.put, List.setIfInBounds_toArray, List.set_cons_zero, List.set_cons_succ, i64_w, i32_w]
      rfl
    refine take_ (i := 3) (N := some 8) (v := ?_) (a' := ?_) #[true, true, true, true, false, false, false, false, false, false, false, false, false] rfl rfl (take_ofW HT_.out HW_.out (by kernel_rfl)) (fun _ _ _ h => h) (Or.inl ⟨by rfl, ?_⟩) hHeld ?_ ?_
    rotate_left
    · rintro w' ⟨s0, s1, s2, s3⟩
      go_simp
      with_reducible rfl
    rotate_left
    · simp only [Act.put, List.setIfInBounds_toArray, List.set_cons_zero, List.set_cons_succ, i64_w, i32_w]
      rfl
    refine pure_ (i := 4) (N := some 9) (v := ?_) (a' := ?_) #[true, true, true, true, true, false, false, false, false, false, false, false, false] rfl rfl (any_of HT_.out (by kernel_rfl)) (fun _ _ _ h => h) (Or.inl ⟨by rfl, ?_⟩) ?_ ?_
    rotate_left
    · intro w'
      go_simp
      with_reducible rfl
    rotate_left
    · simp only [Act.put, List.setIfInBounds_toArray, List.set_cons_zero, List.set_cons_succ, i64_w, i32_w]
      rfl
    refine pure_ (i := 5) (N := some 10) (v := ?_) (a' := ?_) #[true, true, true, true, true, true, false, false, false, false, false, false, false] rfl rfl (any_of HT_.out (by kernel_rfl)) (fun _ _ _ h => h) (Or.inl ⟨by rfl, ?_⟩) ?_ ?_
    rotate_left
    · intro w'
      go_simp
      with_reducible rfl
    rotate_left
    · simp only [Act.put, List.setIfInBounds_toArray, List.set_cons_zero, List.set_cons_succ, i64_w, i32_w]
      rfl
    refine pure_ (i := 6) (N := some 11) (v := undef) (a' := ?_) #[true, true, true, true, true, true, true, false, false, false, false, false, false] rfl rfl (any_of HT_.out (by kernel_rfl)) (fun _ _ _ h => h) (Or.inr ⟨by rfl, rfl⟩) ?_ ?_
    rotate_left
    · simp only [Act.put, List.setIfInBounds_toArray, List.set_cons_zero, List.set_cons_succ, i64_w, i32_w]
      rfl
    refine pure_ (i := 7) (N := some 12) (v := undef) (a' := ?_) #[true, true, true, true, true, true, true, true, false, false, false, false, false] rfl rfl (any_of HT_.out (by kernel_rfl)) (fun _ _ _ h => h) (Or.inr ⟨by rfl, rfl⟩) ?_ ?_
    rotate_left
    · simp only [Act.put, List.setIfInBounds_toArray, List.set_cons_zero, List.set_cons_succ, i64_w, i32_w]
      rfl
    refine pure_ (i := 8) (N := some 13) (v := undef) (a' := ?_) #[true, true, true, true, true, true, true, true, true, false, false, false, false] rfl rfl (any_of HT_.out (by kernel_rfl)) (fun _ _ _ h => h) (Or.inr ⟨by rfl, rfl⟩) ?_ ?_
    rotate_left
    · simp only [Act.put, List.setIfInBounds_toArray, List.set_cons_zero, List.set_cons_succ, i64_w, i32_w]
      rfl
    refine pure_ (i := 9) (N := some 14) (v := undef) (a' := ?_) #[true, true, true, true, true, true, true, true, true, true, false, false, false] rfl rfl (any_of HT_.out (by kernel_rfl)) (fun _ _ _ h => h) (Or.inr ⟨by rfl, rfl⟩) ?_ ?_
    rotate_left
    · simp only [Act.put, List.setIfInBounds_toArray, List.set_cons_zero, List.set_cons_succ, i64_w, i32_w]
      rfl
    refine pure_ (i := 10) (N := some 15) (v := undef) (a' := ?_) #[true, true, true, true, true, true, true, true, true, true, true, false, false] rfl rfl (any_of HT_.out (by kernel_rfl)) (fun _ _ _ h => h) (Or.inr ⟨by rfl, rfl⟩) ?_ ?_
    rotate_left
    · simp only [Act.put, List.setIfInBounds_toArray, List.set_cons_zero, List.set_cons_succ, i64_w, i32_w]
      rfl
    refine pure_ (i := 11) (N := some 16) (v := ?_) (a' := ?_) #[true, true, true, true, true, true, true, true, true, true, true, true, false] rfl rfl (any_of HT_.out (by kernel_rfl)) (fun _ _ _ h => h) (Or.inl ⟨by rfl, ?_⟩) ?_ ?_
    rotate_left
    · intro w'
      go_simp
      with_reducible rfl
    rotate_left
    · simp only [Act.put, List.setIfInBounds_toArray, List.set_cons_zero, List.set_cons_succ, i64_w, i32_w]
      rfl
    refine pure_ (i := 12) (N := some 4) (v := ?_) (a' := ?_) #[true, true, true, true, true, true, true, true, true, true, true, true, true] rfl rfl (any_of HT_.out (by kernel_rfl)) (fun _ _ _ h => h) (Or.inl ⟨by rfl, ?_⟩) ?_ ?_
    rotate_left
    · intro w'
      go_simp
      with_reducible rfl
    rotate_left
    · simp only [Act.put, List.setIfInBounds_toArray, List.set_cons_zero, List.set_cons_succ, i64_w, i32_w]
      rfl
    refine done_ (done_of HT_.out (by kernel_rfl)) ?_
    go_wp2
    go_ret
    exact ⟨by rw [HI2.out]; rfl, HD.out⟩
/-- The first hour whose list has a place, from a place of the list on. -/
def firstAt (x y : Int) : List (List (List Int)) → Int → Int × Bool
  | [], _ => (0, false)
  | L :: r, k => if L.any (isAt x y) = true then (k + 1, true) else firstAt x y r (k + 1)
def impl_MeltsAt.f (k : Nat) (l0 : List ByteArray) (a1 : Int) (a2 : Int) (a3 : Int) : Option (Int × Bool) :=
  (impl_areMelting.f l0 a1).bind fun t => if t = true then (impl_has.f l0 a2 a3).bind fun t2 => (if t2 = true then (impl_melt.f k l0 a1).bind fun bt => (if bt.1.length ≤ 1000000 ∧ (∀ L ∈ bt.1, ∀ p ∈ L, 1 < p.length) then some (firstAt a2 a3 bt.1 0) else none) else some (0, false)) else some (0, false)
theorem impl_MeltsAt.mono : ∀ a0 a1 a2 a3 k, LeO (impl_MeltsAt.f k a0 a1 a2 a3) (impl_MeltsAt.f (k + 1) a0 a1 a2 a3) := by
  intro a0 a1 a2 a3 k
  unfold impl_MeltsAt.f
  refine LeO.bind (LeO.refl _) (fun t => LeO.ite (LeO.bind (LeO.refl _) (fun t2 => LeO.ite (LeO.bind (impl_melt.mono _ _ _) (fun bt => LeO.refl _)) (LeO.refl _))) (LeO.refl _))
def maW (w : World) (x y : Int) : World := (w.alloc (.cells #[.int .i64 x] 3)).alloc (.cells #[.int .i64 y] 3)
theorem rows_get {w : World} {A : Option Addr} {n : Nat} {xs : List (List (List Int))} (h : Kd.C (Kd.slice 34 (Kd.slice 3 (Kd.int .i64))) w A n xs) (i : Nat) (hi : i < xs.length) (h1 : (i : Int) < n) : ∃ ad A0 c0, A = some ad ∧ w.cell? (ad.add i) = some (.slice A0 xs[i].length c0) ∧ xs[i].length ≤ c0 ∧ (Kd.slice 3 (Kd.int .i64)).C w A0 xs[i].length xs[i] := by
  obtain ⟨ad, c, e, _, hK, hc0⟩ := Kd.C_get h ([] : List (List Int)) (i : Int) (by omega) h1
  have hc : ∀ j u, c[j]? = some u → w.cell? (ad.add (i * 1 + j)) = some u := hc0
  have e2 : xs.getD (i : Int).toNat [] = xs[i] := by simp [List.getD_eq_getElem?_getD, List.getElem?_eq_getElem hi]
  rw [e2] at hK
  obtain ⟨A0, c0, rfl, l0, g0⟩ := hK
  exact ⟨ad, A0, c0, e, by have hq := hc 0 _ rfl; rwa [Nat.mul_one, Nat.add_zero] at hq, l0, g0⟩
set_option maxHeartbeats 4000000 in
set_option maxRecDepth 100000 in
theorem impl_MeltsAt.calls (k : Nat) (A0 : Option Addr) (c0 : Nat) (l0 : List ByteArray) (a1 : Int) (a2 : Int) (a3 : Int) (r1 : Int) (r2 : Bool) (w : World) (hr0 : Kd.string.C w A0 l0.length l0) (hc0 : l0.length ≤ c0) (h : impl_MeltsAt.f k l0 a1 a2 a3 = some (r1, r2)) :
    Calls Tryd.prog 18 #[.slice A0 l0.length c0, .int .i64 a1, .int .i64 a2, .int .i64 a3] w fun e w' => e = .returned (.tuple #[.int .i64 r1, .bool r2]) ∧ Below w.heap.size w w' := by
  obtain ⟨M, hM⟩ : ∃ M, M = maW w a2 a3 := ⟨_, rfl⟩
  have hb0 : Below w.heap.size w M := by rw [hM]; exact ((Below.refl _ w).alloc (Nat.le_refl _) _).alloc (by simp) _
  have hcx : M.cell? ⟨w.heap.size, 0, none⟩ = some (.int .i64 a2) := by rw [hM]; show ((w.alloc (.cells #[.int .i64 a2] 3)).alloc (.cells #[.int .i64 a3] 3)).cell? ⟨w.heap.size, 0, none⟩ = _; simp
  have hcy : M.cell? ⟨w.heap.size + 1, 0, none⟩ = some (.int .i64 a3) := by rw [hM]; show ((w.alloc (.cells #[.int .i64 a2] 3)).alloc (.cells #[.int .i64 a3] 3)).cell? ⟨w.heap.size + 1, 0, none⟩ = _; simp
  have hsz : M.heap.size = w.heap.size + 2 := by rw [hM]; show ((w.alloc (.cells #[.int .i64 a2] 3)).alloc (.cells #[.int .i64 a3] 3)).heap.size = _; simp
  unfold impl_MeltsAt.f at h
  obtain ⟨t, ht, h⟩ := Option.bind_eq_some_iff.mp h
  have HM := Aside0.mk hM
  have HB0 := Aside0.mk hb0
  have HS := Aside0.mk hsz
  have hBw : ∀ W : World, Below M.heap.size M W → Below w.heap.size w W := fun W hW => hb0.trans (hW.mono (by omega))
  have HBW := Aside0.mk hBw
  have HT := Aside0.mk (fun (W : World) (hW : Below M.heap.size M W) => impl_areMelting.calls A0 c0 l0 a1 t W (Kd.C_below hr0 (hBw W hW)) hc0 ht)
  have HMR := Aside0.mk (show Below M.heap.size M (maW w a2 a3) by rw [hM]; exact Below.refl _ _)
  have HCX := Aside0.mk hcx
  have HCY := Aside0.mk hcy
  have HR0 := Aside0.mk hr0
  have HC0 := Aside0.mk hc0
  clear hr0 hc0 hcx hcy hsz hb0 ht hBw hM
  cases t with
  | false =>
    simp at h
    obtain ⟨rfl, rfl⟩ := h
    go_enter Tryd.func18, Tryd.ntmps18
    go_wp2_with (go_at_call 40; (with_reducible refine (HT.out _ ?hB).mono ?_); (case hB => exact HMR.out); rintro e w' ⟨rfl, hb⟩)
    go_ret2
    exact ⟨rfl, HBW.out _ (HMR.out.trans (hb.mono HMR.out.size))⟩
  | true =>
    rw [if_pos rfl] at h
    obtain ⟨t2, ht2, h⟩ := Option.bind_eq_some_iff.mp h
    have HT2 := Aside0.mk (fun (W : World) (hW : Below M.heap.size M W) => impl_has.calls A0 c0 l0 a2 a3 t2 W (Kd.C_below HR0.out (HBW.out W hW)) HC0.out ht2)
    clear ht2
    cases t2 with
    | false =>
      simp at h
      obtain ⟨rfl, rfl⟩ := h
      go_enter Tryd.func18, Tryd.ntmps18
      go_wp2_with (first | (go_at_call 40; (with_reducible refine (HT.out _ ?hB).mono ?_); (case hB => exact HMR.out); rintro e w' ⟨rfl, hb⟩; have hbm := Aside0.mk (HMR.out.trans (hb.mono HMR.out.size)); clear hb; have hx' := (hbm.out.cell (World.block_lt_of_cell? M _ HCX.out)).trans HCX.out; have hy' := (hbm.out.cell (World.block_lt_of_cell? M _ HCY.out)).trans HCY.out) | (go_at_call 41; (with_reducible refine (HT2.out _ hbm.out).mono ?_); rintro e w'' ⟨rfl, ⟨nd, rfl⟩⟩))
      go_ret2
      exact ⟨rfl, pw_below_drewN (HBW.out _ hbm.out) _⟩
    | true =>
      rw [if_pos rfl] at h
      obtain ⟨⟨hours, rest⟩, hm, h⟩ := Option.bind_eq_some_iff.mp h
      split at h
      case isFalse => cases h
      case isTrue gd =>
      have h := Option.some.inj h
      have HFIN := Aside0.mk h
      have HGD := Aside0.mk gd
      have HMELT := Aside0.mk (fun (W : World) (hW : Below M.heap.size M W) => impl_melt.calls k (fun k_ => k_ < w.heap.size) A0 c0 l0 a1 hours rest W (Kd.V_mk HC0.out (Kd.F_below (Kd.C_F Kd.heap_string HR0.out) (HBW.out W hW))) hm)
      clear hm h gd
      go_enter Tryd.func18, Tryd.ntmps18
      go_wp2_with (first | (go_at_call 40; (with_reducible refine (HT.out _ ?hB).mono ?_); (case hB => exact HMR.out); rintro e w' ⟨rfl, hb⟩; have hbm := Aside0.mk (HMR.out.trans (hb.mono HMR.out.size)); clear hb; have hx' := (hbm.out.cell (World.block_lt_of_cell? M _ HCX.out)).trans HCX.out; have hy' := (hbm.out.cell (World.block_lt_of_cell? M _ HCY.out)).trans HCY.out) | (go_at_call 41; (with_reducible refine (HT2.out _ hbm.out).mono ?_); rintro e w'' ⟨rfl, ⟨nd, rfl⟩⟩; have hbm2 := Aside0.mk (pw_below_drewN hbm.out nd)) | (go_at_call 42; (with_reducible refine (HMELT.out _ hbm2.out).mono ?_); rintro e w7 ⟨v7, v8, rfl, ho0, ho1, hb7⟩; clear ho1; have HB7 := Aside0.mk (hbm2.out.trans (hb7.mono hbm2.out.size)); clear hb7; obtain ⟨Ah, ch, eh⟩ := Kd.R_slice ho0; subst eh; have HCH := Aside0.mk (Kd.R_reads' ho0).2.2; clear ho0))
      clear hx' hy'
      go_loopg [12, 13, 33] hours.length (fun gg _ _ s33 wr => ∃ kk : Nat, kk ≤ hours.length ∧ hours.length - kk ≤ gg ∧ s33 = .int .i64 kk ∧ Aside0 (Below M.heap.size M wr) ∧ Aside0 (Below w7.heap.size w7 wr) ∧ Aside0 (firstAt a2 a3 (hours.drop kk) (kk : Int) = (r1, r2)))
      case atStart => exact ⟨0, Nat.zero_le _, by omega, rfl, HB7, ⟨Below.refl _ _⟩, HFIN⟩
      case round =>
        obtain ⟨kk, hkk, hg, rfl, HBM, HBH, HL⟩ := hrel
        by_cases hlt : kk < hours.length
        · have q1 : (kk : Int) < (hours.length : Int) := by omega
          have p1 : 0 ≤ (kk : Int) := by omega
          obtain ⟨ad, Ax, cx, e1, hx, hcx, hC⟩ := rows_get (Kd.C_below HCH.out HBH.out) kk hlt q1
          cases e1
          have hL := HL.out
          rw [List.drop_eq_getElem_cons hlt] at hL
          simp only [firstAt] at hL
          obtain ⟨L, hLL⟩ : ∃ L, L = hours[kk] := ⟨_, rfl⟩
          rw [← hLL] at hx hcx hC hL
          have hall : ∀ p ∈ L, 1 < p.length := HGD.out.2 L (by rw [hLL]; exact List.getElem_mem hlt)
          have hszM := HBM.out.size
          have hcall := containsFunc_row 44 #[.pointer (some ⟨w.heap.size, 0, none⟩), .pointer (some ⟨w.heap.size + 1, 0, none⟩)] (isAt a2 a3) (enters_of Tryd.func44 (by kernel_rfl) rfl) Ax cx L wr
            (fun W x A c hx hC hc hW => by
              have hWM : Below M.heap.size M W := HBM.out.trans (hW.mono hszM)
              refine (meltsAt_pred a2 a3 w.heap.size (w.heap.size + 1) x A c W ((hWM.cell (World.block_lt_of_cell? M _ HCX.out)).trans HCX.out) ((hWM.cell (World.block_lt_of_cell? M _ HCY.out)).trans HCY.out) (hall x hx) hC).mono ?_
              rintro e w' ⟨rfl, hd⟩
              exact ⟨rfl, hW.trans (hd.mono hW.size)⟩) hC
          have HLEN := Aside0.mk (show kk < hours.length ∧ hours.length ≤ 1000000 from ⟨hlt, HGD.out.1⟩)
          have HW1 := Aside0.mk (show wrap64 ((kk : Int) + 1) = ((kk + 1 : Nat) : Int) by have := HGD.out.1; unfold wrap64; omega)
          replace p1 := eq_true p1
          replace q1 := eq_true q1
          clear hLL hcx hC hall hszM HL
          cases hq : L.any (isAt a2 a3) with
          | true =>
            rw [hq] at hcall
            rw [hq, if_pos rfl] at hL
            have HQ := Aside0.mk hL
            clear hq hL
            go_wp2_with (go_at_call 43; (with_reducible refine hcall.mono ?_); rintro e w' ⟨rfl, hb'⟩)
            go_ret2
            have hq := HQ.out
            have hw1 := HW1.out
            simp only [Prod.mk.injEq] at hq
            obtain ⟨e1, e2⟩ := hq
            subst e2
            refine ⟨?_, HBW.out _ (HBM.out.trans (hb'.mono HBM.out.size))⟩
            rw [show r1 = wrap64 ((kk : Int) + 1) by rw [← e1, hw1]; omega]
            rfl
          | false =>
            rw [hq] at hcall
            rw [hq, if_neg (by simp)] at hL
            have HQ := Aside0.mk hL
            clear hq hL
            go_wp2_with (go_at_call 43; (with_reducible refine hcall.mono ?_); rintro e w' ⟨rfl, hb'⟩)
            go_roundg (hours.length - (kk + 1))
            case measure => have := HLEN.out; omega
            case rel => exact ⟨kk + 1, by have := HLEN.out; omega, by omega, by rw [HW1.out], ⟨HBM.out.trans (hb'.mono HBM.out.size)⟩, ⟨HBH.out.trans (hb'.mono HBH.out.size)⟩, ⟨by rw [show ((kk + 1 : Nat) : Int) = (kk : Int) + 1 by omega]; exact HQ.out⟩⟩
        · have q1 : ¬ (kk : Int) < (hours.length : Int) := by omega
          have e1 : kk = hours.length := by omega
          have hL := HL.out
          rw [e1, List.drop_of_length_le (Nat.le_refl _)] at hL
          simp only [firstAt, Prod.mk.injEq] at hL
          obtain ⟨rfl, rfl⟩ := hL
          clear e1
          go_wp2
          go_ret2
          exact ⟨rfl, HBW.out _ HBM.out⟩

end Go.Proofs.YtnbmpdpcbndooaaDoor.R
