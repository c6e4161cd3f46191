-- Laid by a program of this session (wip/pp.py) over the seat's translation, with its own texts for some functions.
import Derived.Test.YtaocnjaeaiacmaaDoorQ0
import Derived.Test.YtaocnjaeaiacmaaDoorQ11
import Derived.Test.YtaocnjaeaiacmaaDoorQ13
import Derived.Test.YtaocnjaeaiacmaaDoorQ14
namespace Go.Proofs.YtaocnjaeaiacmaaDoor.Q
open Go.RowKit Go.Proofs.YtaocnjaeaiacmaaDoorW.PrintWords Go.Proofs.YtaocnjaeaiacmaaDoorW.PrintLast Go.Proofs.YtaocnjaeaiacmaaDoorW.PrintMore
attribute [local go_sem] max2_int min2_int max_two min_two max_three min_three max_four min_four   -- for this text's walks alone
set_option linter.unusedVariables false
set_option linter.unusedSimpArgs false

/-! ### impl_CoolestBite: function 21 -/
theorem row_get {w : World} {A : Option Addr} {n : Nat} {xs : List (List Int)} (h : Kd.C (Kd.slice 3 (Kd.int .i64)) w A n xs) (i : Nat) (hi : i < xs.length) (h1 : (i : Int) < n) : ∃ ad A0 c0, A = some ad ∧ w.cell? (ad.add i) = some (.slice A0 xs[i].length c0) ∧ xs[i].length ≤ c0 ∧ (Kd.int .i64).C w A0 xs[i].length xs[i] := by
  obtain ⟨ad, c, e, _, hK, hc0⟩ := Kd.C_get h ([] : List Int) (i : Int) (by omega) h1
  have hc : ∀ j u, c[j]? = some u → w.cell? (ad.add (i * 1 + j)) = some u := hc0
  have e2 : xs.getD (i : Int).toNat [] = xs[i] := by simp [List.getD_eq_getElem?_getD, List.getElem?_eq_getElem hi]
  rw [e2] at hK
  obtain ⟨A0, c0, rfl, l0, g0⟩ := hK
  exact ⟨ad, A0, c0, e, by have hq := hc 0 _ rfl; rwa [Nat.mul_one, Nat.add_zero] at hq, l0, g0⟩
theorem results_tmp4 {fn : Func} {t u v x : Tmp} (h : fn.results = #[.tmp t, .tmp u, .tmp v, .tmp x]) (tmps : Array Value) (P : Program) (w : World) :
    (results fn tmps).run P w = .ok (.tuple #[tmps.getD t undef, tmps.getD u undef, tmps.getD v undef, tmps.getD x undef]) w := by
  simp [results, h]
def coolB.T8 : Bool × List (List Nat × List Nat) := (true, [([], []), ([], []), ([1], [1]), ([2], [2]), ([], []), ([4], [4]), ([5], [5]), ([0, 3, 6], [0, 3, 6]), ([], []), ([7, 8, 7], [7, 8]), ([9], [9]), ([10], [10]), ([10], [10]), ([11, 9, 0, 1, 2, 3, 4, 5, 6, 7, 8, 9, 10, 11], [11]), ([12, 13, 0, 1, 2, 3, 4, 5, 6, 7, 8, 9, 10, 11, 12, 13], [12])])
def coolB.B8 : List Nat := [0, 0, 2, 6, 0, 16, 48, 127, 0, 511, 1023, 2047, 2047, 4095, 16383]
theorem coolB.tab8 : rtab .any (opsOf Tryd.f21 8) = coolB.T8 := by kernel_rfl
theorem coolB.bits8 : waitsOk coolB.T8.2 coolB.B8 = true := by kernel_rfl
def coolB.T14 : Bool × List (List Nat × List Nat) := (true, [([], []), ([0], [0]), ([1], [1]), ([], []), ([3], [3]), ([4], [4]), ([], []), ([2, 0, 1, 2], [2]), ([5, 7, 0, 1, 2, 3, 4, 5, 7], [5]), ([6, 8, 0, 1, 2, 3, 4, 5, 6, 7, 8], [6]), ([9, 0, 1, 2, 3, 4, 5, 6, 7, 8, 9], [])])
def coolB.B14 : List Nat := [0, 1, 3, 0, 8, 24, 0, 7, 191, 511, 1023]
theorem coolB.tab14 : rtab .any (opsOf Tryd.f21 14) = coolB.T14 := by kernel_rfl
theorem coolB.bits14 : waitsOk coolB.T14.2 coolB.B14 = true := by kernel_rfl
/-- One square more is tried. -/
def coolStep (k : Nat) (l0 : List ByteArray) (op : Int) (s : Int × Int × Int) (p : List Int) : Option (Int × Int × Int) :=
  (impl_put.f l0 (rd p 0) (rd p 1) 46).bind fun r => (impl_HoursToMelt.f k r op).bind fun h => some (if h.2 = true ∧ h.1 > s.2.2 then (rd p 0, rd p 1, h.1) else s)
def coolFold (k : Nat) (l0 : List ByteArray) (op : Int) : List (List Int) → Int × Int × Int → Option (Int × Int × Int)
  | [], s => some s
  | p :: r, s => (coolStep k l0 op s p).bind fun s' => coolFold k l0 op r s'
theorem coolStep_mono (k : Nat) (l0 : List ByteArray) (op : Int) (s : Int × Int × Int) (p : List Int) : LeO (coolStep k l0 op s p) (coolStep (k + 1) l0 op s p) :=
  LeO.bind (LeO.refl _) (fun r => LeO.bind (impl_HoursToMelt.mono _ _ _) (fun h => LeO.refl _))
theorem coolFold_mono (k : Nat) (l0 : List ByteArray) (op : Int) (L : List (List Int)) : ∀ s, LeO (coolFold k l0 op L s) (coolFold (k + 1) l0 op L s) := by
  induction L with
  | nil => intro s; exact LeO.refl _
  | cons p r ih => intro s; exact LeO.bind (coolStep_mono k l0 op s p) (fun s' => ih s')
def impl_CoolestBite.f (k : Nat) (l0 : List ByteArray) (a1 : Int) : Option (Int × Int × Int × Bool) :=
  (impl_HoursToMelt.f k l0 a1).bind fun h => if h.2 = true then (impl_spots.f (fun _ _ => some true) k l0 0).bind fun L => (if L.length ≤ 1000000 ∧ (∀ p ∈ L, 1 < p.length) then (coolFold k l0 a1 L (0, 0, -1)).bind fun s => some (if s.2.2 < 0 then (0, 0, 0, false) else (s.1, s.2.1, s.2.2, true)) else none) else some (0, 0, 0, false)
theorem impl_CoolestBite.mono : ∀ a0 a1 k, LeO (impl_CoolestBite.f k a0 a1) (impl_CoolestBite.f (k + 1) a0 a1) := by
  intro a0 a1 k
  unfold impl_CoolestBite.f
  exact LeO.bind (impl_HoursToMelt.mono _ _ _) (fun h => LeO.ite (LeO.bind (impl_spots.mono _ _ _ _) (fun L => LeO.ite (LeO.bind (coolFold_mono _ _ _ _ _) (fun s => LeO.refl _)) (LeO.refl _))) (LeO.refl _))
/-- The best row so far, where there is one. -/
def BestIs (w : World) (v : Value) (s : Int × Int × Int) : Prop := 0 ≤ s.2.2 → ∃ (A : Option Addr) (c : Nat) (p : List Int), v = .slice A p.length c ∧ 1 < p.length ∧ Kd.C (Kd.int .i64) w A p.length p ∧ rd p 0 = s.1 ∧ rd p 1 = s.2.1
set_option maxHeartbeats 1000000 in
theorem cool_all (x y : Int) (W : World) : Calls Tryd.prog 43 #[.int .i64 x, .int .i64 y] W fun e w' => e = .returned (.bool true) ∧ W = w' := by
  go_enter Tryd.func43, Tryd.ntmps43
  go_wp2
  go_ret
  exact ⟨rfl, rfl⟩
set_option maxHeartbeats 4000000 in
set_option maxRecDepth 100000 in
theorem impl_CoolestBite.calls (k : Nat) (A0 : Option Addr) (c0 : Nat) (l0 : List ByteArray) (a1 : Int) (r1 : Int) (r2 : Int) (r3 : Int) (r4 : Bool) (w : World) (hr0 : Kd.string.C w A0 l0.length l0) (hc0 : l0.length ≤ c0) (h : impl_CoolestBite.f k l0 a1 = some (r1, r2, r3, r4)) :
    Calls Tryd.prog 21 #[.slice A0 l0.length c0, .int .i64 a1] w fun e w' => e = .returned (.tuple #[.int .i64 r1, .int .i64 r2, .int .i64 r3, .bool r4]) ∧ Below w.heap.size w w' := by
  unfold impl_CoolestBite.f at h
  obtain ⟨⟨h1, h2⟩, hh, h⟩ := Option.bind_eq_some_iff.mp h
  have HR0 := Aside0.mk hr0
  have HC0 := Aside0.mk hc0
  have HT := Aside0.mk (impl_HoursToMelt.calls k A0 c0 l0 a1 h1 h2 w hr0 hc0 hh)
  clear hr0 hc0 hh
  cases h2 with
  | false =>
    simp at h
    obtain ⟨rfl, rfl, rfl, rfl⟩ := h
    go_enter Tryd.func21, Tryd.ntmps21
    go_wp2_with (go_at_call 19; (with_reducible refine HT.out.mono ?_); rintro e w' ⟨rfl, hb⟩)
    ((try simp only [Exit.inBlock, Exit.then]); refine bodyPost_ret (results_tmp4 rfl _ _ _) rfl ?_)
    exact ⟨rfl, hb⟩
  | true =>
    rw [if_pos rfl] at h
    obtain ⟨L, hL, h⟩ := Option.bind_eq_some_iff.mp h
    split at h
    case isFalse => cases h
    case isTrue gd =>
    obtain ⟨S, hS, h⟩ := Option.bind_eq_some_iff.mp h
    have HGD := Aside0.mk gd
    have HFOLD := Aside0.mk hS
    have HFIN := Aside0.mk (Option.some.inj h)
    have HSP := Aside0.mk (fun (W : World) (hW : Below w.heap.size w W) => impl_spots.calls (fun _ _ => some true) 43 #[] (enters_of Tryd.func43 (by kernel_rfl) rfl) k A0 c0 l0 0 L W
      (fun W2 x y b _ hb => by
        obtain rfl := Option.some.inj hb
        refine (cool_all x y W2).mono ?_
        rintro e w' ⟨rfl, rfl⟩
        exact ⟨rfl, Below.refl _ _⟩) (Kd.C_below HR0.out hW) HC0.out hL)
    clear hL hS h gd
    go_enter Tryd.func21, Tryd.ntmps21
    go_wp2_with (first | (go_at_call 19; (with_reducible refine HT.out.mono ?_); rintro e w1 ⟨rfl, hb⟩; have HB1 := Aside0.mk hb; clear hb) | (go_at_call 42; (with_reducible refine (HSP.out _ HB1.out).mono ?_); rintro e w7 ⟨v7, rfl, ho, hb7⟩; have HB7 := Aside0.mk (HB1.out.trans (hb7.mono HB1.out.size)); clear hb7; obtain ⟨Ah, ch, eh⟩ := Kd.S_slice ho; subst eh; have HCH := Aside0.mk (Kd.S_reads' ho).2.2; clear ho))
    go_loopg [10, 11, 13, 14, 15, 27] L.length (fun gg s10 s11 _ _ _ s27 wr => ∃ (kk : Nat) (s : Int × Int × Int), kk ≤ L.length ∧ L.length - kk ≤ gg ∧ s27 = .int .i64 kk ∧ s11 = .int .i64 s.2.2 ∧ Aside0 (Below w.heap.size w wr) ∧ Aside0 (Below w7.heap.size w7 wr) ∧ Aside0 (BestIs wr s10 s) ∧ Aside0 (coolFold k l0 a1 (L.drop kk) s = some S) ∧ Aside0 (-1 ≤ s.2.2))
    case atStart => exact ⟨0, (0, 0, -1), Nat.zero_le _, by omega, rfl, rfl, HB7, ⟨Below.refl _ _⟩, ⟨fun hq => absurd hq (by decide)⟩, HFOLD, ⟨by decide⟩⟩
    case round =>
      obtain ⟨kk, s, hkk, hg, rfl, rfl, HB, HBH, HBI, HL, HM⟩ := hrel
      by_cases hlt : kk < L.length
      · have q1 : (kk : Int) < (L.length : Int) := by omega
        have p1 : 0 ≤ (kk : Int) := by omega
        obtain ⟨adL, Ax, cx, e1, hx, hcx, hC⟩ := row_get (Kd.C_below HCH.out HBH.out) kk hlt q1
        cases e1
        have hl := HL.out
        rw [List.drop_eq_getElem_cons hlt] at hl
        simp only [coolFold] at hl
        obtain ⟨s', hst, hl⟩ := Option.bind_eq_some_iff.mp hl
        have hp1 := HGD.out.2 _ (List.getElem_mem hlt)
        have HLT := Aside0.mk (show kk < L.length ∧ L.length ≤ 1000000 from ⟨hlt, HGD.out.1⟩)
        obtain ⟨p, hpe⟩ : ∃ p, p = L[kk] := ⟨_, rfl⟩
        rw [← hpe] at hx hcx hC hst hp1
        clear hpe
        unfold coolStep at hst
        obtain ⟨rows, hput, hst⟩ := Option.bind_eq_some_iff.mp hst
        obtain ⟨⟨hh1, hh2⟩, hho, hst⟩ := Option.bind_eq_some_iff.mp hst
        have hst := Option.some.inj hst
        obtain ⟨ad, e0, hx0⟩ := Kd.at_int hC 0 (by omega) (by omega)
        obtain ⟨ad', e1, hx1⟩ := Kd.at_int hC 1 (by omega) (by omega)
        subst e0
        obtain rfl := Option.some.inj e1
        rw [show (0 : Int).toNat = 0 from rfl, Addr.add_zero'] at hx0
        (try simp only [show (1 : Int).toNat = 1 from rfl, Nat.reduceMul, Nat.reduceEqDiff, Go.Addr.add, ↓reduceIte] at hx1)
        obtain ⟨px, hpx⟩ : ∃ u, u = rd p 0 := ⟨_, rfl⟩
        obtain ⟨py, hpy⟩ : ∃ v, v = rd p 1 := ⟨_, rfl⟩
        rw [← hpx] at hx0 hput hst
        rw [← hpy] at hx1 hput hst
        have q0 : (0 < p.length) = True := eq_true (by omega)
        have q2 : (1 < p.length) = True := eq_true hp1
        have q2i : ((1 : Int) < (p.length : Int)) = True := eq_true (by omega)
        have HROW := Aside0.mk (show 1 < p.length ∧ Kd.C (Kd.int .i64) wr (some ad) p.length p ∧ rd p 0 = px ∧ rd p 1 = py from ⟨hp1, hC, hpx.symm, hpy.symm⟩)
        have HPUT := Aside0.mk (fun (W : World) (hW : Below w.heap.size w W) => impl_put.calls A0 c0 l0 px py 46 rows W (Kd.C_below HR0.out hW) HC0.out hput)
        have HHO := Aside0.mk hho
        have HST := Aside0.mk hst
        have HNX := Aside0.mk hl
        have HW1 := Aside0.mk (show wrap64 ((kk : Int) + 1) = ((kk + 1 : Nat) : Int) by have := HGD.out.1; unfold wrap64; omega)
        replace p1 := eq_true p1
        replace q1 := eq_true q1
        clear hcx hC hp1 hput hho hst hl hpx hpy HL e1
        go_wp2
        refine start_ (n := 15) (S := fun w' => w'.cell? ad = some (.int .i64 px) ∧ w'.cell? ⟨ad.block, ad.off + 1, none⟩ = some (.int .i64 py)) (ds := []) #[false, false, false, false, false, false, false, false, false, false, false, false, false, false, false] (by kernel_rfl) rfl rfl ⟨hx0, hx1⟩ (fun hHeld => ?_); refine with_tabW coolB.tab8 coolB.bits8 (fun HT_ HW_ => ?_)
        have HD := Aside0.mk (below_drew1 (Below.refl wr.heap.size wr))
        clear hx0 hx1 hx
        generalize wr.drew = w3 at HD hHeld ⊢
        refine pure_ (i := 0) (N := some 32) (v := ?_) (a' := ?_) #[true, false, false, false, false, false, false, false, false, false, false, false, false, false, false] rfl rfl (any_of HT_.out (by kernel_rfl)) (fun _ _ _ h => h) (Or.inl ⟨by rfl, ?_⟩) ?_ ?_
        rotate_left
        · intro w'
          go_simp
          with_reducible rfl
        rotate_left
        · simp only [Act.put, List.setIfInBounds_toArray, List.set_cons_zero, List.set_cons_succ, i64_w, i32_w]
          rfl
        refine pure_ (i := 1) (N := some 33) (v := ?_) (a' := ?_) #[true, true, false, false, false, false, false, false, false, false, false, false, false, false, false] rfl rfl (any_of HT_.out (by kernel_rfl)) (fun _ _ _ h => h) (Or.inl ⟨by rfl, ?_⟩) ?_ ?_
        rotate_left
        · intro w'
          go_simp
          with_reducible rfl
        rotate_left
        · simp only [Act.put, List.setIfInBounds_toArray, List.set_cons_zero, List.set_cons_succ, i64_w, i32_w]
          rfl
        refine pure_ (i := 2) (N := some 34) (v := ?_) (a' := ?_) #[true, true, true, false, false, false, false, false, false, false, false, false, false, false, false] rfl rfl (any_of HT_.out (by kernel_rfl)) (fun _ _ _ h => h) (Or.inl ⟨by rfl, ?_⟩) ?_ ?_
        rotate_left
        · intro w'
          go_simp
          with_reducible rfl
        rotate_left
        · simp only [Act.put, List.setIfInBounds_toArray, List.set_cons_zero, List.set_cons_succ, i64_w, i32_w]
          rfl
        refine take_ (i := 3) (N := some 35) (v := ?_) (a' := ?_) #[true, true, true, true, false, false, false, false, false, false, false, false, false, false, false] rfl rfl (take_ofW HT_.out HW_.out (by kernel_rfl)) (fun _ _ _ h => h) (Or.inl ⟨by rfl, ?_⟩) hHeld ?_ ?_
        rotate_left
        · rintro w' ⟨s0_, s1_⟩
          go_simp
          with_reducible rfl
        rotate_left
        · simp only [Act.put, List.setIfInBounds_toArray, List.set_cons_zero, List.set_cons_succ, i64_w, i32_w]
          rfl
        refine pure_ (i := 4) (N := some 36) (v := ?_) (a' := ?_) #[true, true, true, true, true, false, false, false, false, false, false, false, false, false, false] rfl rfl (any_of HT_.out (by kernel_rfl)) (fun _ _ _ h => h) (Or.inl ⟨by rfl, ?_⟩) ?_ ?_
        rotate_left
        · intro w'
          go_simp
          with_reducible rfl
        rotate_left
        · simp only [Act.put, List.setIfInBounds_toArray, List.set_cons_zero, List.set_cons_succ, i64_w, i32_w]
          rfl
        refine pure_ (i := 5) (N := some 37) (v := ?_) (a' := ?_) #[true, true, true, true, true, true, false, false, false, false, false, false, false, false, false] rfl rfl (any_of HT_.out (by kernel_rfl)) (fun _ _ _ h => h) (Or.inl ⟨by rfl, ?_⟩) ?_ ?_
        rotate_left
        · intro w'
          go_simp
          with_reducible rfl
        rotate_left
        · simp only [Act.put, List.setIfInBounds_toArray, List.set_cons_zero, List.set_cons_succ, i64_w, i32_w]
          rfl
        refine take_ (i := 6) (N := some 38) (v := ?_) (a' := ?_) #[true, true, true, true, true, true, true, false, false, false, false, false, false, false, false] rfl rfl (take_ofW HT_.out HW_.out (by kernel_rfl)) (fun _ _ _ h => h) (Or.inl ⟨by rfl, ?_⟩) hHeld ?_ ?_
        rotate_left
        · rintro w' ⟨s0_, s1_⟩
          go_simp
          with_reducible rfl
        rotate_left
        · simp only [Act.put, List.setIfInBounds_toArray, List.set_cons_zero, List.set_cons_succ, i64_w, i32_w]
          rfl
        refine pure_ (i := 8) (N := some 40) (v := ?_) (a' := ?_) #[true, true, true, true, true, true, true, false, true, false, false, false, false, false, false] rfl rfl (any_of HT_.out (by kernel_rfl)) (fun _ _ _ h => h) (Or.inl ⟨by rfl, ?_⟩) ?_ ?_
        rotate_left
        · intro w'
          go_simp
          with_reducible rfl
        rotate_left
        · simp only [Act.put, List.setIfInBounds_toArray, List.set_cons_zero, List.set_cons_succ, i64_w, i32_w]
          rfl
        refine one_ (i := 7) (N := some 39) #[true, true, true, true, true, true, true, true, true, false, false, false, false, false, false] rfl rfl (one_of HT_.out (by kernel_rfl)) (by decide) (fun K hK => ?_)
        refine goes_ Tryd.func44 (by kernel_rfl) rfl #[.slice A0 l0.length c0, .int .i64 px, .int .i64 py, .int .u8 46] (by rfl) rfl rfl (by (try simp only [List.map_toArray, List.map_cons, List.map_nil]); first | done | rfl) ?_
        refine (HPUT.out w3 (HB.out.trans (HD.out.mono HB.out.size))).mono ?_
        rintro e w4 ⟨v39, rfl, ho4, hb4⟩
        refine ⟨_, rfl, ?_⟩
        obtain ⟨Ap, cp, ep⟩ := Kd.R_slice ho4
        subst ep
        have HD4 := Aside0.mk (HD.out.trans (hb4.mono HD.out.size))
        have HHM := Aside0.mk (impl_HoursToMelt.calls k Ap cp rows a1 hh1 hh2 w4 (Kd.R_reads' ho4).2.2 (Kd.R_reads' ho4).2.1 HHO.out)
        have hHeld4 := Aside0.mk (show _ ∧ _ from ⟨(hb4.cell (World.block_lt_of_cell? w3 _ hHeld.1)).trans hHeld.1, (hb4.cell (World.block_lt_of_cell? w3 _ hHeld.2)).trans hHeld.2⟩)
        clear ho4 hb4
        refine hK.out _ _ hHeld4.out (fun _ => ?_)
        clear hK K hHeld
        refine norm_ (a' := ?_) ?_ ?_
        rotate_left
        · show Act.put _ (some 39) _ = _
          simp only [Act.put, List.setIfInBounds_toArray, List.set_cons_zero, List.set_cons_succ, i64_w, i32_w]
          rfl
        have hHeld := hHeld4.out
        refine one_ (i := 9) (N := some 41) #[true, true, true, true, true, true, true, true, true, true, false, false, false, false, false] rfl rfl (one_of HT_.out (by kernel_rfl)) (by decide) (fun K hK => ?_)
        refine goes_ Tryd.func19 (by kernel_rfl) rfl #[.slice Ap rows.length cp, .int .i64 a1] (by rfl) rfl rfl (by (try simp only [List.map_toArray, List.map_cons, List.map_nil]); first | done | rfl) ?_
        refine HHM.out.mono ?_
        rintro e w5 ⟨rfl, hb5⟩
        refine ⟨_, rfl, ?_⟩
        have HD5 := Aside0.mk (HD4.out.trans (hb5.mono HD4.out.size))
        refine hK.out _ _ ⟨(hb5.cell (World.block_lt_of_cell? w4 _ hHeld.1)).trans hHeld.1, (hb5.cell (World.block_lt_of_cell? w4 _ hHeld.2)).trans hHeld.2⟩ (fun _ => ?_)
        clear hK K hHeld hb5
        refine norm_ (a' := ?_) ?_ ?_
        rotate_left
        · show Act.put _ (some 41) _ = _
          simp only [Act.put, List.setIfInBounds_toArray, List.set_cons_zero, List.set_cons_succ, i64_w, i32_w]
          rfl
        refine pure_ (i := 10) (N := some 31) (v := ?_) (a' := ?_) #[true, true, true, true, true, true, true, true, true, true, true, false, false, false, false] rfl rfl (any_of HT_.out (by kernel_rfl)) (fun _ _ _ h => h) (Or.inl ⟨by rfl, ?_⟩) ?_ ?_
        rotate_left
        · intro w'
          go_simp
          with_reducible rfl
        rotate_left
        · simp only [Act.put, List.setIfInBounds_toArray, List.set_cons_zero, List.set_cons_succ, i64_w, i32_w]
          rfl
        refine pure_ (i := 11) (N := some 42) (v := ?_) (a' := ?_) #[true, true, true, true, true, true, true, true, true, true, true, true, false, false, false] rfl rfl (any_of HT_.out (by kernel_rfl)) (fun _ _ _ h => h) (Or.inl ⟨by rfl, ?_⟩) ?_ ?_
        rotate_left
        · intro w'
          go_simp
          with_reducible rfl
        rotate_left
        · simp only [Act.put, List.setIfInBounds_toArray, List.set_cons_zero, List.set_cons_succ, i64_w, i32_w]
          rfl
        refine pure_ (i := 12) (N := some 43) (v := ?_) (a' := ?_) #[true, true, true, true, true, true, true, true, true, true, true, true, true, false, false] rfl rfl (any_of HT_.out (by kernel_rfl)) (fun _ _ _ h => h) (Or.inl ⟨by rfl, ?_⟩) ?_ ?_
        rotate_left
        · intro w'
          go_simp
          with_reducible rfl
        rotate_left
        · simp only [Act.put, List.setIfInBounds_toArray, List.set_cons_zero, List.set_cons_succ, i64_w, i32_w]
          rfl
        refine pure_ (i := 13) (N := some 14) (v := ?_) (a' := ?_) #[true, true, true, true, true, true, true, true, true, true, true, true, true, true, false] rfl rfl (any_of HT_.out (by kernel_rfl)) (fun _ _ _ h => h) (Or.inl ⟨by rfl, ?_⟩) ?_ ?_
        rotate_left
        · intro w'
          go_simp
          with_reducible rfl
        rotate_left
        · simp only [Act.put, List.setIfInBounds_toArray, List.set_cons_zero, List.set_cons_succ, i64_w, i32_w]
          rfl
        refine pure_ (i := 14) (N := some 15) (v := ?_) (a' := ?_) #[true, true, true, true, true, true, true, true, true, true, true, true, true, true, true] rfl rfl (any_of HT_.out (by kernel_rfl)) (fun _ _ _ h => h) (Or.inl ⟨by rfl, ?_⟩) ?_ ?_
        rotate_left
        · intro w'
          go_simp
          with_reducible rfl
        rotate_left
        · simp only [Act.put, List.setIfInBounds_toArray, List.set_cons_zero, List.set_cons_succ, i64_w, i32_w]
          rfl
        refine done_ (done_of HT_.out (by kernel_rfl)) ?_
        have HBw := Aside0.mk (HB.out.trans (HD5.out.mono HB.out.size))
        have HBHw := Aside0.mk (HBH.out.trans (HD5.out.mono HBH.out.size))
        have HBIo := Aside0.mk (show BestIs w5 _ s from fun hq => by
          obtain ⟨A, c, p', e1, e2, e3, e4⟩ := HBI.out hq
          exact ⟨A, c, p', e1, e2, Kd.C_below e3 HD5.out, e4⟩)
        have HBIn := Aside0.mk (show BestIs w5 (.slice (some ad) p.length cx) (px, py, hh1) from fun _ => ⟨_, _, p, rfl, HROW.out.1, Kd.C_below HROW.out.2.1 HD5.out, HROW.out.2.2⟩)
        clear HB HBH HBI HD HD4 hHeld4
        cases hh2 with
        | false =>
          have HS' := Aside0.mk (show s = s' by rw [← HST.out, if_neg (by simp)])
          go_wp2
          go_roundg (L.length - (kk + 1))
          case measure => have := HLT.out; omega
          case rel => exact ⟨kk + 1, s, by have := HLT.out; omega, by omega, by rw [HW1.out], rfl, HBw, HBHw, HBIo, ⟨by rw [HS'.out]; exact HNX.out⟩, HM⟩
        | true =>
          by_cases c : hh1 > s.2.2
          · have HS' := Aside0.mk (show (px, py, hh1) = s' by rw [← HST.out, if_pos ⟨rfl, c⟩])
            have HM' := Aside0.mk (show (-1 : Int) ≤ hh1 by have := HM.out; omega)
            have cb : decide (s.2.2 < hh1) = true := decide_eq_true c
            clear c
            go_wp2
            go_roundg (L.length - (kk + 1))
            case measure => have := HLT.out; omega
            case rel => exact ⟨kk + 1, (px, py, hh1), by have := HLT.out; omega, by omega, by rw [HW1.out], rfl, HBw, HBHw, HBIn, ⟨by rw [HS'.out]; exact HNX.out⟩, HM'⟩
          · have HS' := Aside0.mk (show s = s' by rw [← HST.out, if_neg (fun q => c q.2)])
            have cb : decide (s.2.2 < hh1) = false := decide_eq_false c
            clear c
            go_wp2
            go_roundg (L.length - (kk + 1))
            case measure => have := HLT.out; omega
            case rel => exact ⟨kk + 1, s, by have := HLT.out; omega, by omega, by rw [HW1.out], rfl, HBw, HBHw, HBIo, ⟨by rw [HS'.out]; exact HNX.out⟩, HM⟩
      · have q1 : ¬ (kk : Int) < (L.length : Int) := by omega
        have e1 : kk = L.length := by omega
        have hl := HL.out
        rw [e1, List.drop_of_length_le (Nat.le_refl _)] at hl
        simp only [coolFold] at hl
        obtain rfl := Option.some.inj hl
        clear e1 hl
        by_cases c : s.2.2 < 0
        · have hf := HFIN.out
          rw [if_pos c] at hf
          simp only [Prod.mk.injEq] at hf
          obtain ⟨rfl, rfl, rfl, rfl⟩ := hf
          have cb : decide (s.2.2 < 0) = true := decide_eq_true c
          clear c
          go_wp2
          ((try simp only [Exit.inBlock, Exit.then]); refine bodyPost_ret (results_tmp4 rfl _ _ _) rfl ?_)
          exact ⟨rfl, HB.out⟩
        · have hf := HFIN.out
          rw [if_neg c] at hf
          simp only [Prod.mk.injEq] at hf
          obtain ⟨A, cc, p, e1, e2, e3, e4, e5⟩ := HBI.out (by omega)
          subst e1
          obtain ⟨ad, e0, hx0⟩ := Kd.at_int e3 0 (by omega) (by omega)
          obtain ⟨ad', e1, hx1⟩ := Kd.at_int e3 1 (by omega) (by omega)
          subst e0
          obtain rfl := Option.some.inj e1
          rw [show (0 : Int).toNat = 0 from rfl, Addr.add_zero', e4] at hx0
          (try simp only [show (1 : Int).toNat = 1 from rfl, Nat.reduceMul, Nat.reduceEqDiff, Go.Addr.add, ↓reduceIte] at hx1)
          rw [e5] at hx1
          have q0 : (0 < p.length) = True := eq_true (by omega)
          have q2 : (1 < p.length) = True := eq_true e2
          have q2i : ((1 : Int) < (p.length : Int)) = True := eq_true (by omega)
          have cb : decide (s.2.2 < 0) = false := decide_eq_false c
          have HF := Aside0.mk hf
          clear c e1 e2 e3 e4 e5 hf
          go_wp2
          go_quiet (fail)
          go_wp2
          ((try simp only [Exit.inBlock, Exit.then]); refine bodyPost_ret (results_tmp4 rfl _ _ _) rfl ?_)
          obtain ⟨rfl, rfl, rfl, rfl⟩ := HF.out
          exact ⟨rfl, pw_below_drewN HB.out _⟩

end Go.Proofs.YtaocnjaeaiacmaaDoor.Q
