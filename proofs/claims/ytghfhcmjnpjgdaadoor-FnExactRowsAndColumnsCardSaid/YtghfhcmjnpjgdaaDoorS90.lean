import Derived.Test.YtghfhcmjnpjgdaaDoorS1
import Derived.Test.YtghfhcmjnpjgdaaDoorS2
import Derived.Test.YtghfhcmjnpjgdaaDoorS3
import Derived.Test.YtghfhcmjnpjgdaaDoorS4
import Derived.Test.YtghfhcmjnpjgdaaDoorS5
import Derived.Laws.RangeString
import Derived.RangeFuncBox
namespace Go.Proofs.YtghfhcmjnpjgdaaDoor.S
open Go.RowKit Go.Proofs.YtghfhcmjnpjgdaaDoorW.PrintWords Go.Proofs.YtghfhcmjnpjgdaaDoorW.PrintLast Go.Proofs.YtghfhcmjnpjgdaaDoorW.PrintMore
attribute [local go_sem] max2_int min2_int max_two min_two max_three min_three max_four min_four bne_self_eq_false
set_option linter.unusedVariables false
set_option linter.unusedSimpArgs false
/-! ### a range over a text whose iterator lies anywhere -/
theorem next_at (W : World) (b : Nat) (s : ByteArray) (pos : Nat) (hb : W.heap[b]? = some (.stringIter s pos)) (h : pos < s.size) (ha : (s[pos]'h).toNat < 128) (ty : TypeId) :
    (Instr.next (.pointer (some ⟨b, 0, none⟩)) true ty).run Tryd.prog W = .ok (.tuple #[.bool true, .int .i64 pos, .int .i32 (s[pos]'h).toNat]) { W with heap := W.heap.setIfInBounds b (.stringIter s (pos + 1)) } := by
  simp only [Instr.next, getObj, setObj, Sem.run_bind, Sem.run, hb, Result.andThen, h, if_true, decode_ascii s pos h ha]
  simp [goInt, Sem.run, hb, Result.andThen]
theorem next_end (W : World) (b : Nat) (s : ByteArray) (pos : Nat) (hb : W.heap[b]? = some (.stringIter s pos)) (h : ¬ pos < s.size) (ty : TypeId) :
    (Instr.next (.pointer (some ⟨b, 0, none⟩)) true ty).run Tryd.prog W = .ok (.tuple #[.bool false]) W := by
  simp [Instr.next, getObj, Sem.run, hb, h]
theorem iter_kept (W : World) (b : Nat) (o : Obj) : Kept W { W with heap := W.heap.setIfInBounds b o } (fun k => k = b) :=
  ⟨by simp, fun i hi hn => Array.getElem?_setIfInBounds_ne (fun e => hn e.symm)⟩
theorem iter_at (W : World) (b : Nat) (o : Obj) (hb : b < W.heap.size) : ({ W with heap := W.heap.setIfInBounds b o } : World).heap[b]? = some o := by
  show (W.heap.setIfInBounds b o)[b]? = _
  simp [hb]
/-- A row of the call's own, over what leaves its block alone. -/
theorem row_kept {W W' : World} {base : Nat} {ok : Nat → Prop} {v : Value} {xs : List Int} {S : Nat → Prop} (h : Kd.R (Kd.int .i64) 3 W base ok v xs) (hk : Kept W W' S) (hs : ∀ k, v.ownBlock = some k → ¬ S k) : Kd.R (Kd.int .i64) 3 W' base (fun _ => True) v xs :=
  Kd.R_mono (Kd.R_move (Kd.R_tight rfl h) (fun k hk' => hk.2 k (Kd.R_lt h k hk'.symm) (hs k hk'.symm))) (fun _ _ => trivial)
theorem row_no_iter {W : World} {base : Nat} {ok : Nat → Prop} {v : Value} {xs : List Int} {b : Nat} {s : ByteArray} {pos : Nat} (h : Kd.R (Kd.int .i64) 3 W base ok v xs) (hb : W.heap[b]? = some (.stringIter s pos)) : v.ownBlock ≠ some b := by
  intro e
  obtain ⟨cells, hc⟩ := Kd.R_typed h b e
  rw [hb] at hc
  cases hc
/-! ### the reference's loops, told plainly -/
def rcRow (k : Nat) (y : Int) (s : ByteArray) : Nat → Nat → List Int → List Int → Option (List Int × List Int)
  | 0, _, R, C => some (R, C)
  | d + 1, x, R, C => if bt s (x : Int) = 120 then (spec_l1Put.f k R y).bind fun R' => (spec_l1Put.f k C (x : Int)).bind fun C' => rcRow k y s d (x + 1) R' C' else rcRow k y s d (x + 1) R C
def rcAll (k : Nat) (l : List ByteArray) : Nat → Nat → List Int → List Int → Option (List Int × List Int)
  | 0, _, R, C => some (R, C)
  | d + 1, y, R, C => (rcRow k (y : Int) (rdOf ByteArray.empty l (y : Int)) (rdOf ByteArray.empty l (y : Int)).size 0 R C).bind fun p => rcAll k l d (y + 1) p.1 p.2
set_option maxHeartbeats 4000000 in
set_option maxRecDepth 100000 in
theorem spec_RC.bad0 (k : Nat) (A0 : Option Addr) (c0 : Nat) (l0 : List ByteArray) (w : World) (hr : Kd.string.C w A0 l0.length l0) (hn : spec_l1In.f (l0.length : Int) 1 20 = some false) :
    Calls Tryd.prog 17 #[.slice A0 l0.length c0] w fun e w' => e = .returned (.tuple #[.slice none 0 0, .slice none 0 0, .int .i64 0, .bool false]) ∧ Below w.heap.size w w' := by
  have HN := Aside0.mk hn
  clear hn hr
  go_enter Tryd.func17, Tryd.ntmps17
  go_wp2_with (go_at_call 39; (with_reducible refine (spec_l1In.calls _ _ _ false _ HN.out).mono ?_); rintro e w' ⟨rfl, ⟨nd, rfl⟩⟩)
  refine bodyPost_ret (v := .tuple #[.slice none 0 0, .slice none 0 0, .int .i64 0, .bool false]) ?_ rfl ⟨rfl, pw_below_drewN (Below.refl _ _) nd⟩
  simp [results, Tryd.f17, go_sem]
/-- What a row must be, as the reference asks it. -/
def rcOk (ob : ByteArray → Bool) (n0 : Nat) (s : ByteArray) : Bool := ob s && decide (s.size = n0)
set_option maxHeartbeats 4000000 in
set_option maxRecDepth 100000 in
theorem spec_RC.bad (k : Nat) (ob : ByteArray → Bool) (A0 : Option Addr) (c0 : Nat) (l0 : List ByteArray) (w : World) (hr : Kd.string.C w A0 l0.length l0) (hn : spec_l1In.f (l0.length : Int) 1 20 = some true) (hl : 1 ≤ l0.length ∧ l0.length ≤ 20)
    (hbx : ∀ s ∈ l0, spec_bxBox.f k s = some (ob s)) (hall : l0.all (rcOk ob (rdOf ByteArray.empty l0 0).size) = false) :
    Calls Tryd.prog 17 #[.slice A0 l0.length c0] w fun e w' => e = .returned (.tuple #[.slice none 0 0, .slice none 0 0, .int .i64 0, .bool false]) ∧ Below w.heap.size w w' := by
  obtain ⟨y0, hy0⟩ : ∃ y0, y0 = rdOf ByteArray.empty l0 0 := ⟨_, rfl⟩
  rw [← hy0] at hall
  obtain ⟨ad0, e0, hx0⟩ := Kd.at_string hr (0 : Int) (by omega) (by omega)
  subst e0
  rw [show (0 : Int).toNat = 0 from rfl, Addr.add_zero', ← hy0] at hx0
  have HN := Aside0.mk hn
  have HR := Aside0.mk hr
  have HBX := Aside0.mk hbx
  have HL := Aside0.mk hl
  have HX0 := Aside0.mk hx0
  have q0 : ((0 : Int) < (l0.length : Int)) = True := eq_true (by omega)
  have n0 : (0 < l0.length) = True := eq_true (by omega)
  have hget : ∀ j : Nat, j < l0.length → rdOf ByteArray.empty l0 (j : Int) ∈ l0 := fun j hj => by rw [rdS_get l0 j hj]; exact List.getElem_mem hj
  have HGET := Aside0.mk hget
  have HALL := Aside0.mk hall
  clear hn hr hbx hl hx0 hy0 hget hall
  go_enter Tryd.func17, Tryd.ntmps17
  go_wp2_with (go_at_call 39; (with_reducible refine (spec_l1In.calls _ _ _ true _ HN.out).mono ?_); rintro e w' ⟨rfl, ⟨nd, rfl⟩⟩)
  have HB1 := Aside0.mk (show Below w.heap.size w (w.drewN nd) from pw_below_drewN (Below.refl _ _) nd)
  generalize w.drewN nd = W1 at HB1 ⊢
  go_loopg [7, 19] l0.length (fun gg _ v19 wr => ∃ y : Nat, y ≤ l0.length ∧ l0.length - y ≤ gg ∧ v19 = .int .i64 (y : Int) ∧ Aside0 (Below w.heap.size w wr) ∧ Aside0 (∀ j : Nat, j < y → rcOk ob y0.size (rdOf ByteArray.empty l0 (j : Int)) = true))
  case atStart => exact ⟨0, Nat.zero_le _, by omega, rfl, HB1, ⟨fun j hj => absurd hj (Nat.not_lt_zero _)⟩⟩
  case round =>
    clear HB1
    obtain ⟨y, hyn, hgk, rfl, HB, HOK⟩ := hrel
    by_cases hlt : y < l0.length
    · have q1 : (y : Int) < (l0.length : Int) := by omega
      have p1 : 0 ≤ (y : Int) := by omega
      obtain ⟨ad, e1, hx1⟩ := Kd.at_string (Kd.C_below HR.out HB.out) (y : Int) p1 q1
      have ea : ad0 = ad := Option.some.inj e1
      subst ea
      simp only [Int.toNat_natCast] at hx1
      have hmem := HGET.out y hlt
      have hcon := HBX.out _ hmem
      have hx0 := (HB.out.cell (World.block_lt_of_cell? w _ HX0.out)).trans HX0.out
      have HWY := Aside0.mk (show wrap64 ((y : Int) + 1) = ((y + 1 : Nat) : Int) by unfold wrap64; have := HL.out; omega)
      replace p1 := eq_true p1
      replace q1 := eq_true q1
      have HLT := Aside0.mk hlt
      have HMEM := Aside0.mk hmem
      clear hlt hmem
      obtain ⟨s, hs⟩ : ∃ s, s = rdOf ByteArray.empty l0 (y : Int) := ⟨_, rfl⟩
      rw [← hs] at hcon hx1
      have HS := Aside0.mk hs
      have HX1 := Aside0.mk hx1
      clear hs
      cases hob : ob s with
      | false =>
        rw [hob] at hcon
        have HCON := Aside0.mk hcon
        clear hcon hob
        go_wp2_with (go_at_call 38; (with_reducible refine (spec_bxBox.calls k _ false _ HCON.out).mono ?_); rintro e w' ⟨rfl, ⟨nd2, rfl⟩⟩)
        refine bodyPost_ret (v := .tuple #[.slice none 0 0, .slice none 0 0, .int .i64 0, .bool false]) ?_ rfl ⟨rfl, pw_below_drewN HB.out _⟩
        simp [results, Tryd.f17, go_sem]
      | true =>
        rw [hob] at hcon
        have HCON := Aside0.mk hcon
        by_cases c1 : s.size = y0.size
        · skip
          have c1a : ((s.size : Int) != (y0.size : Int)) = false := by rw [bne_eq_false_iff_eq]; omega
          have c1b : (s.size != y0.size) = false := by rw [bne_eq_false_iff_eq]; omega
          have HC1 := Aside0.mk (show rcOk ob y0.size (rdOf ByteArray.empty l0 (y : Int)) = true by rw [← HS.out]; unfold rcOk; rw [hob, decide_eq_true c1]; rfl)
          clear c1 hob hcon
          go_wp2_with (go_at_call 38; (with_reducible refine (spec_bxBox.calls k _ true _ HCON.out).mono ?_); rintro e w' ⟨rfl, ⟨nd2, rfl⟩⟩)
          go_roundg (l0.length - (y + 1))
          case measure => have := HLT.out; omega
          case rel =>
            refine ⟨y + 1, HLT.out, by omega, by rw [HWY.out], ⟨pw_below_drewN HB.out _⟩, ⟨fun j hj => ?_⟩⟩
            by_cases e : j = y
            · subst e; exact HC1.out
            · exact HOK.out j (by omega)
        · have c1a : ((s.size : Int) != (y0.size : Int)) = true := by rw [bne_iff_ne]; omega
          have c1b : (s.size != y0.size) = true := by rw [bne_iff_ne]; omega
          clear c1 hob hcon
          go_wp2_with (go_at_call 38; (with_reducible refine (spec_bxBox.calls k _ true _ HCON.out).mono ?_); rintro e w' ⟨rfl, ⟨nd2, rfl⟩⟩)
          refine bodyPost_ret (v := .tuple #[.slice none 0 0, .slice none 0 0, .int .i64 0, .bool false]) ?_ rfl ⟨rfl, pw_below_drewN HB.out _⟩
          simp [results, Tryd.f17, go_sem]
    · exfalso
      have h1 : l0.all (rcOk ob y0.size) = true := by
        rw [List.all_eq_true]
        intro s hs
        obtain ⟨j, hj, rfl⟩ := List.getElem_of_mem hs
        have := HOK.out j (by omega)
        rw [rdS_get l0 j hj] at this
        exact this
      rw [HALL.out] at h1
      cases h1
set_option maxHeartbeats 8000000 in
set_option maxRecDepth 100000 in
theorem spec_RC.good (k : Nat) (ob : ByteArray → Bool) (A0 : Option Addr) (c0 : Nat) (l0 : List ByteArray) (w : World) (hr : Kd.string.C w A0 l0.length l0) (hn : spec_l1In.f (l0.length : Int) 1 20 = some true) (hl : 1 ≤ l0.length ∧ l0.length ≤ 20)
    (hbx : ∀ s ∈ l0, spec_bxBox.f k s = some (ob s)) (hasc : ∀ s ∈ l0, ob s = true → s.size ≤ 60 ∧ ∀ p (h : p < s.size), (s[p]'h).toNat < 128) (hall : l0.all (rcOk ob (rdOf ByteArray.empty l0 0).size) = true) (R2 C2 : List Int) (hrun : rcAll k l0 l0.length 0 [] [] = some (R2, C2)) :
    Calls Tryd.prog 17 #[.slice A0 l0.length c0] w fun e w' => ∃ v0 v1 : Value, e = .returned (.tuple #[v0, v1, .int .i64 (wrap64 ((R2.length : Int) * (C2.length : Int))), .bool true]) ∧
      Kd.R (Kd.int .i64) 3 w' w.heap.size (fun _ => True) v0 R2 ∧ Kd.R (Kd.int .i64) 3 w' w.heap.size (fun _ => True) v1 C2 ∧ Below w.heap.size w w' := by
  obtain ⟨y0, hy0⟩ : ∃ y0, y0 = rdOf ByteArray.empty l0 0 := ⟨_, rfl⟩
  rw [← hy0] at hall
  obtain ⟨ad0, e0, hx0⟩ := Kd.at_string hr (0 : Int) (by omega) (by omega)
  subst e0
  rw [show (0 : Int).toNat = 0 from rfl, Addr.add_zero', ← hy0] at hx0
  have HN := Aside0.mk hn
  have HR := Aside0.mk hr
  have HBX := Aside0.mk hbx
  have HL := Aside0.mk hl
  have HX0 := Aside0.mk hx0
  have q0 : ((0 : Int) < (l0.length : Int)) = True := eq_true (by omega)
  have n0 : (0 < l0.length) = True := eq_true (by omega)
  have hget : ∀ j : Nat, j < l0.length → rdOf ByteArray.empty l0 (j : Int) ∈ l0 := fun j hj => by rw [rdS_get l0 j hj]; exact List.getElem_mem hj
  have HGET := Aside0.mk hget
  have hok : ∀ s ∈ l0, ob s = true ∧ s.size = y0.size := by
    intro s hs
    have h1 := List.all_eq_true.1 hall s hs
    unfold rcOk at h1
    rw [Bool.and_eq_true] at h1
    exact ⟨h1.1, of_decide_eq_true h1.2⟩
  have HALL := Aside0.mk hok
  have HASC := Aside0.mk hasc
  have HRUN := Aside0.mk hrun
  clear hn hr hbx hl hx0 hy0 hget hall hok hasc hrun
  go_enter Tryd.func17, Tryd.ntmps17
  go_wp2_with (go_at_call 39; (with_reducible refine (spec_l1In.calls _ _ _ true _ HN.out).mono ?_); rintro e w' ⟨rfl, ⟨nd, rfl⟩⟩)
  have HB1 := Aside0.mk (show Below w.heap.size w (w.drewN nd) from pw_below_drewN (Below.refl _ _) nd)
  generalize w.drewN nd = W1 at HB1 ⊢
  go_loopg [7, 19] l0.length (fun gg _ v19 wr => ∃ y : Nat, y ≤ l0.length ∧ l0.length - y ≤ gg ∧ v19 = .int .i64 (y : Int) ∧ Aside0 (Below w.heap.size w wr) ∧ Aside0 (∀ j : Nat, j < y → rcOk ob y0.size (rdOf ByteArray.empty l0 (j : Int)) = true))
  case atStart => exact ⟨0, Nat.zero_le _, by omega, rfl, HB1, ⟨fun j hj => absurd hj (Nat.not_lt_zero _)⟩⟩
  case round =>
    clear HB1
    obtain ⟨y, hyn, hgk, rfl, HB, HOK⟩ := hrel
    by_cases hlt : y < l0.length
    · have q1 : (y : Int) < (l0.length : Int) := by omega
      have p1 : 0 ≤ (y : Int) := by omega
      obtain ⟨ad, e1, hx1⟩ := Kd.at_string (Kd.C_below HR.out HB.out) (y : Int) p1 q1
      have ea : ad0 = ad := Option.some.inj e1
      subst ea
      simp only [Int.toNat_natCast] at hx1
      have hmem := HGET.out y hlt
      have hcon := HBX.out _ hmem
      have hx0 := (HB.out.cell (World.block_lt_of_cell? w _ HX0.out)).trans HX0.out
      have HWY := Aside0.mk (show wrap64 ((y : Int) + 1) = ((y + 1 : Nat) : Int) by unfold wrap64; have := HL.out; omega)
      replace p1 := eq_true p1
      replace q1 := eq_true q1
      have HLT := Aside0.mk hlt
      have HMEM := Aside0.mk hmem
      clear hlt hmem
      obtain ⟨s, hs⟩ : ∃ s, s = rdOf ByteArray.empty l0 (y : Int) := ⟨_, rfl⟩
      rw [← hs] at hcon hx1
      have HS := Aside0.mk hs
      have HX1 := Aside0.mk hx1
      clear hs
      have hob := (HALL.out _ HMEM.out).1
      have c1 := (HALL.out _ HMEM.out).2
      rw [← HS.out] at hob c1
      rw [hob] at hcon
      have HCON := Aside0.mk hcon
      have c1a : ((s.size : Int) != (y0.size : Int)) = false := by rw [bne_eq_false_iff_eq]; omega
      have c1b : (s.size != y0.size) = false := by rw [bne_eq_false_iff_eq]; omega
      have HC1 := Aside0.mk (show rcOk ob y0.size (rdOf ByteArray.empty l0 (y : Int)) = true by rw [← HS.out]; unfold rcOk; rw [hob, decide_eq_true c1]; rfl)
      clear c1 hob hcon
      go_wp2_with (go_at_call 38; (with_reducible refine (spec_bxBox.calls k _ true _ HCON.out).mono ?_); rintro e w' ⟨rfl, ⟨nd2, rfl⟩⟩)
      go_roundg (l0.length - (y + 1))
      case measure => have := HLT.out; omega
      case rel =>
        refine ⟨y + 1, HLT.out, by omega, by rw [HWY.out], ⟨pw_below_drewN HB.out _⟩, ⟨fun j hj => ?_⟩⟩
        by_cases e : j = y
        · subst e; exact HC1.out
        · exact HOK.out j (by omega)
    · obtain rfl : y = l0.length := by omega
      clear hlt HX0 hyn hgk HOK
      go_wp2
      have HO8 := Aside0.mk (Kd.R_nil (Kd.int .i64) 3 wr w.heap.size (fun _ => True))
      have HO9 := Aside0.mk (Kd.R_nil (Kd.int .i64) 3 wr w.heap.size (fun _ => True))
      have HSEP := Aside0.mk (show ∀ b, (Value.slice none 0 0).ownBlock = some b → (Value.slice none 0 0).ownBlock ≠ some b from fun b e => by simp [Value.ownBlock] at e)
      go_loopg [8, 9, 38] l0.length (fun gg v8 v9 v38 wq => ∃ (y : Nat) (R C : List Int), y ≤ l0.length ∧ l0.length - y ≤ gg ∧ v38 = .int .i64 (y : Int) ∧ Aside0 (rcAll k l0 (l0.length - y) y R C = some (R2, C2)) ∧ Aside0 (Below w.heap.size w wq) ∧ Aside0 (Kd.R (Kd.int .i64) 3 wq w.heap.size (fun _ => True) v8 R) ∧ Aside0 (Kd.R (Kd.int .i64) 3 wq w.heap.size (fun _ => True) v9 C) ∧ Aside0 (∀ b, v8.ownBlock = some b → v9.ownBlock ≠ some b))
      case atStart => exact ⟨0, [], [], Nat.zero_le _, by omega, rfl, HRUN, HB, HO8, HO9, HSEP⟩
      case round =>
        clear HB HO8 HO9 HSEP HRUN
        obtain ⟨y, R, C, hyn, hgk, rfl, HRUN, HB, HO8, HO9, HSEP⟩ := hrel
        by_cases hlt : y < l0.length
        · have q1 : (y : Int) < (l0.length : Int) := by omega
          have p1 : 0 ≤ (y : Int) := by omega
          obtain ⟨ad, e1, hx1⟩ := Kd.at_string (Kd.C_below HR.out HB.out) (y : Int) p1 q1
          have ea : ad0 = ad := Option.some.inj e1
          subst ea
          simp only [Int.toNat_natCast] at hx1
          have hmem := HGET.out y hlt
          have hob := HALL.out _ hmem
          have hasc := HASC.out _ hmem hob.1
          have HWY := Aside0.mk (show wrap64 ((y : Int) + 1) = ((y + 1 : Nat) : Int) by unfold wrap64; have := HL.out; omega)
          replace p1 := eq_true p1
          replace q1 := eq_true q1
          have hrun := HRUN.out
          rw [show l0.length - y = (l0.length - (y + 1)) + 1 by omega] at hrun
          simp only [rcAll] at hrun
          obtain ⟨⟨R', C'⟩, hrow, hrest⟩ := Option.bind_eq_some_iff.mp hrun
          obtain ⟨s, hs⟩ : ∃ s, s = rdOf ByteArray.empty l0 (y : Int) := ⟨_, rfl⟩
          rw [← hs] at hx1 hasc hrow
          have HLT := Aside0.mk hlt
          have HROW := Aside0.mk hrow
          have HREST := Aside0.mk hrest
          have HAS := Aside0.mk hasc
          have HBI := Aside0.mk (show w.heap.size ≤ wr.heap.size from HB.out.size)
          clear hlt hmem hob hasc hrun hrow hrest hs HRUN
          go_wp2
          have hIt : (wr.iter s 0).heap[wr.heap.size]? = some (.stringIter s 0) := World.iter_heap wr s 0
          have hK0 : Below wr.heap.size wr (wr.iter s 0) := (Below.refl _ wr).alloc (Nat.le_refl _) _
          have HIT := Aside0.mk hIt
          have HB2 := Aside0.mk (HB.out.trans (hK0.mono HB.out.size))
          have HO8' := Aside0.mk (Kd.R_below HO8.out hK0)
          have HO9' := Aside0.mk (Kd.R_below HO9.out hK0)
          generalize wr.iter s 0 = Wi at *
          generalize wr.heap.size = bI at *
          clear hIt hK0 HB HO8 HO9
          go_loopg [8, 9] s.size (fun gg v8 v9 wq => ∃ (x : Nat) (Ra Ca : List Int), x ≤ s.size ∧ s.size - x ≤ gg ∧ Aside0 (wq.heap[bI]? = some (.stringIter s x)) ∧ Aside0 (rcRow k (y : Int) s (s.size - x) x Ra Ca = some (R', C')) ∧ Aside0 (Below w.heap.size w wq) ∧ Aside0 (Kd.R (Kd.int .i64) 3 wq w.heap.size (fun _ => True) v8 Ra) ∧ Aside0 (Kd.R (Kd.int .i64) 3 wq w.heap.size (fun _ => True) v9 Ca) ∧ Aside0 (∀ b, v8.ownBlock = some b → v9.ownBlock ≠ some b))
          case atStart => exact ⟨0, R, C, Nat.zero_le _, by omega, HIT, HROW, HB2, HO8', HO9', HSEP⟩
          case round =>
            clear HIT HROW HB2 HO8' HO9' HSEP
            obtain ⟨x, Ra, Ca, hxn, hgx, HIT, HROW, HB, HO8, HO9, HSEP⟩ := hrel
            by_cases hx : x < s.size
            · have hex : ∃ rn : Value, ∀ ty : TypeId, (Instr.next (.pointer (some ⟨bI, 0, none⟩)) true ty).run Tryd.prog wr = .ok (.tuple #[.bool true, .int .i64 x, rn]) { wr with heap := wr.heap.setIfInBounds bI (.stringIter s (x + 1)) } := ⟨_, next_at wr bI s x HIT.out hx (HAS.out.2 x hx)⟩
              obtain ⟨rn, hnext⟩ := hex
              obtain ⟨W1, hW1⟩ : ∃ W1 : World, W1 = { wr with heap := wr.heap.setIfInBounds bI (.stringIter s (x + 1)) } := ⟨_, rfl⟩
              rw [← hW1] at hnext
              have hbl : bI < wr.heap.size := (Array.getElem?_eq_some_iff.1 HIT.out).1
              have hk1 : Kept wr W1 (fun b => b = bI) := by rw [hW1]; exact iter_kept _ _ _
              have hI1 : W1.heap[bI]? = some (.stringIter s (x + 1)) := by rw [hW1]; exact iter_at _ _ _ hbl
              have hB1 : Below w.heap.size w W1 := by
                rw [hW1]
                exact HB.out.grown (grownBy_putObj' wr bI _) HB.out.size (fun r e => by cases e; exact HBI.out)
              have hO8 := row_kept HO8.out hk1 (fun b e1 e2 => row_no_iter HO8.out HIT.out (by rw [e1, e2]))
              have hO9 := row_kept HO9.out hk1 (fun b e1 e2 => row_no_iter HO9.out HIT.out (by rw [e1, e2]))
              have HI1 := Aside0.mk hI1
              have HB1 := Aside0.mk hB1
              have H8 := Aside0.mk hO8
              have H9 := Aside0.mk hO9
              have hrow := HROW.out
              rw [show s.size - x = (s.size - (x + 1)) + 1 by omega] at hrow
              simp only [rcRow] at hrow
              have hxb : ∀ h : x < s.size, (((s[x]'h).toNat : Nat) : Int) = bt s (x : Int) := fun h => bt_at s (x : Int) h
              have p2 := eq_true (show (0 : Int) ≤ (x : Int) by omega)
              have q2 := eq_true (show (x : Int) < (s.size : Int) by omega)
              have HLX := Aside0.mk hx
              by_cases c : bt s (x : Int) = 120
              · rw [if_pos c] at hrow
                obtain ⟨Rb, hp1, hrow⟩ := Option.bind_eq_some_iff.mp hrow
                obtain ⟨Cb, hp2, hrow⟩ := Option.bind_eq_some_iff.mp hrow
                have HP1 := Aside0.mk hp1
                have HP2 := Aside0.mk hp2
                have HRW := Aside0.mk hrow
                have cb : (bt s (x : Int) == 120) = true := beq_iff_eq.mpr c
                clear hW1 hbl hk1 hI1 hB1 hO8 hO9 hp1 hp2 hrow HIT HROW HB HO8 HO9 c hx
                go_wp2_with (first | ((with_reducible refine gate_callee (f := 46) rfl ?_); refine goesL_ (some 54) rfl rfl Tryd.func46 (by kernel_rfl) rfl #[u8, .int .i64 (y : Int)] rfl (by (try simp only [List.map_toArray, List.map_cons, List.map_nil]); first | done | rfl) ?_; (with_reducible refine (spec_l1Put.calls k (fun b => some b = u8.ownBlock) u8 Ra (y : Int) Rb w _ HB1.out (Kd.R_tight rfl H8.out) HP1.out).mono ?_); rintro e W2 ⟨v8, rfl, ho8, hb2, hk2⟩; refine ⟨_, rfl, ?_⟩; have HO8' := Aside0.mk ho8; have HB2 := Aside0.mk hb2; have HK2 := Aside0.mk hk2; have H9' := Aside0.mk (row_kept H9.out hk2 (fun b e1 e2 => HSEP.out b e2.symm e1)); clear ho8 hb2 hk2) | ((with_reducible refine gate_callee (f := 46) rfl ?_); refine goesL_ (some 57) rfl rfl Tryd.func46 (by kernel_rfl) rfl #[u9, .int .i64 (x : Int)] rfl (by (try simp only [List.map_toArray, List.map_cons, List.map_nil]); first | done | rfl) ?_; (with_reducible refine (spec_l1Put.calls k (fun b => some b = u9.ownBlock) u9 Ca (x : Int) Cb w _ HB2.out (Kd.R_tight rfl H9'.out) HP2.out).mono ?_); rintro e W3 ⟨v9, rfl, ho9, hb3, hk3⟩; refine ⟨_, rfl, ?_⟩))
                have hno : ∀ b, v8.ownBlock = some b → u9.ownBlock ≠ some b := by
                  intro b e1 e2
                  rcases HO8'.out.1 b e1 with h1 | h1
                  · exact HSEP.out b h1.symm e2
                  · have := Kd.R_lt H9.out b e2
                    omega
                have HX8 := Aside0.mk (row_kept HO8'.out hk3 (fun b e1 e2 => hno b e1 e2.symm))
                have HSEP2 := Aside0.mk (show ∀ b, v8.ownBlock = some b → v9.ownBlock ≠ some b from fun b e1 e2 => by
                  rcases ho9.1 b e2 with h1 | h1
                  · exact hno b e1 h1.symm
                  · have := Kd.R_lt HO8'.out b e1
                    omega)
                have hbl1 : bI < W1.heap.size := (Array.getElem?_eq_some_iff.1 HI1.out).1
                have hi2 := (HK2.out.2 bI hbl1 (fun e => row_no_iter H8.out HI1.out e.symm)).trans HI1.out
                have hi3 := (hk3.2 bI (Nat.lt_of_lt_of_le hbl1 HK2.out.1) (fun e => row_no_iter H9'.out hi2 e.symm)).trans hi2
                have HI3 := Aside0.mk hi3
                have HX9 := Aside0.mk (Kd.R_mono (ok' := fun _ => True) ho9 (fun _ _ => trivial))
                have HB3 := Aside0.mk hb3
                clear hno hbl1 hi2 hi3 ho9 hb3 hk3
                go_roundg (s.size - (x + 1))
                case measure => have := HLX.out; omega
                case rel => exact ⟨x + 1, Rb, Cb, HLX.out, by omega, HI3, HRW, HB3, HX8, HX9, HSEP2⟩
              · rw [if_neg c] at hrow
                have HRW := Aside0.mk hrow
                have cb : (bt s (x : Int) == 120) = false := beq_eq_false_iff_ne.mpr c
                clear hW1 hbl hk1 hI1 hB1 hO8 hO9 hrow HIT HROW HB HO8 HO9 c hx
                go_wp2
                go_roundg (s.size - (x + 1))
                case measure => have := HLX.out; omega
                case rel => exact ⟨x + 1, Ra, Ca, HLX.out, by omega, HI1, HRW, HB1, H8, H9, HSEP⟩
            · obtain rfl : x = s.size := by omega
              have hnext := next_end wr bI s s.size HIT.out hx
              have hrow := HROW.out
              rw [Nat.sub_self] at hrow
              simp only [rcRow, Option.some.injEq, Prod.mk.injEq] at hrow
              obtain ⟨rfl, rfl⟩ := hrow
              clear hx hxn hgx HIT HROW
              go_wp2
              go_roundg (l0.length - (y + 1))
              case measure => have := HLT.out; omega
              case rel => exact ⟨y + 1, _, _, HLT.out, by omega, by rw [HWY.out], HREST, HB, HO8, HO9, HSEP⟩
        · obtain rfl : y = l0.length := by omega
          have hrun := HRUN.out
          rw [Nat.sub_self] at hrun
          simp only [rcAll, Option.some.injEq, Prod.mk.injEq] at hrun
          obtain ⟨rfl, rfl⟩ := hrun
          clear hlt hyn hgk HRUN
          obtain ⟨A8, c8, e8⟩ := Kd.R_slice HO8.out
          obtain ⟨A9, c9, e9⟩ := Kd.R_slice HO9.out
          subst e8
          subst e9
          go_wp2
          refine bodyPost_ret (v := .tuple #[.slice A8 R.length c8, .slice A9 C.length c9, .int .i64 (wrap64 ((R.length : Int) * (C.length : Int))), .bool true]) ?_ rfl ⟨_, _, rfl, HO8.out, HO9.out, HB.out⟩
          simp [results, Tryd.f17, go_sem]
/-! ### the law -/
/-- What the reference and the program hand back for a box. -/
def rcTold (k : Nat) (l0 : List ByteArray) (g0 g1 : List Int) (a : Int) (b : Bool) : Prop := ∃ ob hx : ByteArray → Bool,
  (∀ s ∈ l0, spec_bxBox.f k s = some (ob s)) ∧ (∀ s ∈ l0, impl_isTested.f s = some (ob s)) ∧ (∀ s ∈ l0, strings_Contains.f s (⟨#[120]⟩ : ByteArray) = some (hx s)) ∧ (∀ s ∈ l0, ob s = true → s.size ≤ 60 ∧ ∀ p (h : p < s.size), (s[p]'h).toNat < 128) ∧
  ((¬ (1 ≤ l0.length ∧ l0.length ≤ 20) ∧ spec_l1In.f (l0.length : Int) 1 20 = some false ∧ g0 = [] ∧ g1 = [] ∧ a = 0 ∧ b = false) ∨
   ((1 ≤ l0.length ∧ l0.length ≤ 20) ∧ spec_l1In.f (l0.length : Int) 1 20 = some true ∧ l0.all (rcOk ob (rdOf ByteArray.empty l0 0).size) = false ∧ g0 = [] ∧ g1 = [] ∧ a = 0 ∧ b = false) ∨
   ((1 ≤ l0.length ∧ l0.length ≤ 20) ∧ spec_l1In.f (l0.length : Int) 1 20 = some true ∧ l0.all (rcOk ob (rdOf ByteArray.empty l0 0).size) = true ∧ rcAll k l0 l0.length 0 [] [] = some (g0, g1) ∧ g0 = rcRowsI l0 hx l0.length ∧ g1 = rcColsI l0 (rdOf ByteArray.empty l0 0).size ∧ a = wrap64 ((g0.length : Int) * (g1.length : Int)) ∧ b = true))
theorem rc_any_all (ob : ByteArray → Bool) (n0 : Nat) (l : List ByteArray) : l.any (rcBad ob n0) = !l.all (rcOk ob n0) := by
  rw [List.any_eq_not_all_not]
  congr 2
  funext s
  unfold rcBad rcOk
  cases ob s <;> cases decide (s.size = n0) <;> rfl
theorem rcTold.spec {k : Nat} {l0 : List ByteArray} {g0 g1 : List Int} {a : Int} {b : Bool} (h : rcTold k l0 g0 g1 a b) (A0 : Option Addr) (c0 : Nat) (w : World) (hr : Kd.C Kd.string w A0 l0.length l0) :
    Calls Tryd.prog 17 #[.slice A0 l0.length c0] w fun e w' => ∃ v0 v1 : Value, e = .returned (.tuple #[v0, v1, .int .i64 a, .bool b]) ∧ Kd.R (Kd.int .i64) 3 w' w.heap.size (fun _ => True) v0 g0 ∧ Kd.R (Kd.int .i64) 3 w' w.heap.size (fun _ => True) v1 g1 ∧ Below w.heap.size w w' := by
  obtain ⟨ob, hx, h1, h2, h3, h4, h5⟩ := h
  rcases h5 with ⟨_, hn, rfl, rfl, rfl, rfl⟩ | ⟨hl, hn, hall, rfl, rfl, rfl, rfl⟩ | ⟨hl, hn, hall, hrun, _, _, rfl, rfl⟩
  · refine (spec_RC.bad0 k A0 c0 l0 w hr hn).mono ?_
    rintro e w' ⟨rfl, hb⟩
    exact ⟨_, _, rfl, Kd.R_nil _ _ _ _ _, Kd.R_nil _ _ _ _ _, hb⟩
  · refine (spec_RC.bad k ob A0 c0 l0 w hr hn hl h1 hall).mono ?_
    rintro e w' ⟨rfl, hb⟩
    exact ⟨_, _, rfl, Kd.R_nil _ _ _ _ _, Kd.R_nil _ _ _ _ _, hb⟩
  · exact spec_RC.good k ob A0 c0 l0 w hr hn hl h1 h4 hall g0 g1 hrun
theorem rcTold.impl {k : Nat} {l0 : List ByteArray} {g0 g1 : List Int} {a : Int} {b : Bool} (h : rcTold k l0 g0 g1 a b) (A0 : Option Addr) (c0 : Nat) (w : World) (hr : Kd.C Kd.string w A0 l0.length l0) :
    Calls Tryd.prog 19 #[.slice A0 l0.length c0] w fun e w' => ∃ v0 v1 : Value, e = .returned (.tuple #[v0, v1, .int .i64 a, .bool b]) ∧ Kd.R (Kd.int .i64) 3 w' w.heap.size (fun q => some q ≠ v1.ownBlock) v0 g0 ∧ Kd.R (Kd.int .i64) 3 w' w.heap.size (fun q => some q ≠ v0.ownBlock) v1 g1 ∧ Below w.heap.size w w' := by
  obtain ⟨ob, hx, h1, h2, h3, h4, h5⟩ := h
  rcases h5 with ⟨hl, hn, rfl, rfl, rfl, rfl⟩ | ⟨hl, hn, hall, rfl, rfl, rfl, rfl⟩ | ⟨hl, hn, hall, hrun, e0, e1, rfl, rfl⟩
  · refine (impl_RowsAndColumns.bad ob A0 c0 l0 w hr h2 ?_).mono ?_
    · rw [decide_eq_false (by omega)]; rfl
    · rintro e w' ⟨rfl, hb⟩
      exact ⟨_, _, rfl, Kd.R_nil _ _ _ _ _, Kd.R_nil _ _ _ _ _, hb⟩
  · refine (impl_RowsAndColumns.bad ob A0 c0 l0 w hr h2 ?_).mono ?_
    · rw [rc_any_all, hall]; simp
    · rintro e w' ⟨rfl, hb⟩
      exact ⟨_, _, rfl, Kd.R_nil _ _ _ _ _, Kd.R_nil _ _ _ _ _, hb⟩
  · have hsz : (rdOf ByteArray.empty l0 0).size ≤ 1000 := by
      have e : rdOf ByteArray.empty l0 0 = l0[0] := rdS_get l0 0 (by omega)
      have hm : l0[0] ∈ l0 := List.getElem_mem _
      have h6 := List.all_eq_true.1 hall _ hm
      unfold rcOk at h6
      rw [Bool.and_eq_true] at h6
      rw [e]
      have := (h4 _ hm h6.1).1
      omega
    subst e0
    subst e1
    exact impl_RowsAndColumns.good ob hx A0 c0 l0 w hr h2 h3 (by omega) (by rw [rc_any_all, hall]; rfl) hsz
/-- What is to be known of the plain functions. -/
def laws_FnExactRowsAndColumns.Ok (k : Nat) (l0 : List ByteArray) : Prop := ∃ t, laws_szStringS.f k l0 1048576 = some t ∧ (t < 0 ∨ ¬ t < 0 ∧ ∃ (g0 g1 : List Int) (a : Int) (b : Bool) (m0 : Int) (x1 : List ByteArray) (m1 : Int) (h0 : List Int) (m2 : Int) (h1 : List Int),
  rcTold k l0 g0 g1 a b ∧ laws_toStringS.f k l0 = some l0 ∧ laws_eqIntS.f k g0 g0 = some true ∧ laws_eqIntS.f k g1 g1 = some true ∧ laws_eqStringS.f k l0 l0 = some true ∧ laws_markStringS.f k l0 1 = some (m0, x1) ∧ ¬ m0 < 0 ∧ laws_markIntS.f k g0 1 = some (m1, h0) ∧ laws_markIntS.f k g1 m1 = some (m2, h1) ∧ laws_heldIntS.f k h0 1 = some m1 ∧ ¬ m1 < 0 ∧ laws_heldIntS.f k h1 m1 = some m2 ∧ ¬ m2 < 0)
set_option maxHeartbeats 8000000 in
set_option maxRecDepth 100000 in
theorem laws_FnExactRowsAndColumns.calls (k : Nat) (A0 : Option Addr) (c0 : Nat) (l0 : List ByteArray) (w : World) (hr0 : Kd.C Kd.string w A0 l0.length l0) (hc0 : l0.length ≤ c0) (h : laws_FnExactRowsAndColumns.Ok k l0) :
    Calls Tryd.prog 5 #[.slice A0 l0.length c0] w fun e w' => e = .returned (.bool true) ∧ Below w.heap.size w w' := by
  obtain ⟨t, hsz, h⟩ := h
  have HR0 := Aside0.mk hr0
  have HC0 := Aside0.mk hc0
  have HSZ := Aside0.mk hsz
  clear hr0 hc0 hsz
  have HB := Aside0.mk (Below.refl w.heap.size w)
  rcases h with h | ⟨hn, g0, g1, a, b, m0, x1, m1, h0, m2, h1, htold, hto, he0, he1, hes, hms, hm0, hmi1, hmi2, hh1, hm1, hh2, hm2⟩
  · have c1 : decide (t < 0) = true := decide_eq_true h
    go_enter Tryd.func5, Tryd.ntmps5
    go_wp2_with (first | ((with_reducible refine gate_callee (f := 16) rfl ?_); refine goesL_ (some 22) rfl rfl Tryd.func16 (by kernel_rfl) rfl #[.slice A0 l0.length c0, .int .i64 1048576] rfl (by (try simp only [List.map_toArray, List.map_cons, List.map_nil]); first | done | rfl | (simp only [List.length_drop, List.length_take]; rfl)) ?_; (with_reducible refine (laws_szStringS.calls k _ _ l0 1048576 t _ ?side1 ?side2 HSZ.out).mono ?_); (case side1 => repeat (first | exact (Kd.C_below HR0.out HB.out) | (with_reducible refine Kd.C_alloc ?_ _) | (with_reducible refine Kd.C_drewN ?_ _) | (with_reducible refine Kd.C_drew ?_))); (case side2 => exact HC0.out); rintro e w' ⟨rfl, ⟨nd, rfl⟩⟩; refine ⟨_, rfl, ?_⟩))
    go_ret
    exact ⟨rfl, by repeat (first | (with_reducible first | exact HB.out | apply below_alloc | apply pw_below_drewN | apply below_drew1) | exact HB.out)⟩
  · have c1 : decide (t < 0) = false := decide_eq_false hn
    have c2 : decide (m0 < 0) = false := decide_eq_false hm0
    have c3 : decide (m1 < 0) = false := decide_eq_false hm1
    have c4 : decide (m2 < 0) = false := decide_eq_false hm2
    have HSP := Aside0.mk htold.spec
    have HIM := Aside0.mk htold.impl
    have HTO := Aside0.mk hto
    have HEQ_g0 := Aside0.mk he0
    have HEQ_g1 := Aside0.mk he1
    have HES := Aside0.mk hes
    have HMS := Aside0.mk hms
    have HM1 := Aside0.mk hmi1
    have HM2 := Aside0.mk hmi2
    have HH1 := Aside0.mk hh1
    have HH2 := Aside0.mk hh2
    clear hn htold hto he0 he1 hes hms hm0 hmi1 hmi2 hh1 hm1 hh2 hm2
    go_enter Tryd.func5, Tryd.ntmps5
    go_wp2_with (first
    | ((with_reducible refine gate_callee (f := 16) rfl ?_); refine goesL_ (some 22) rfl rfl Tryd.func16 (by kernel_rfl) rfl #[.slice A0 l0.length c0, .int .i64 1048576] rfl (by (try simp only [List.map_toArray, List.map_cons, List.map_nil]); first | done | rfl | (simp only [List.length_drop, List.length_take]; rfl)) ?_; (with_reducible refine (laws_szStringS.calls k _ _ l0 1048576 t _ ?side1 ?side2 HSZ.out).mono ?_); (case side1 => repeat (first | exact (Kd.C_below HR0.out HB.out) | (with_reducible refine Kd.C_alloc ?_ _) | (with_reducible refine Kd.C_drewN ?_ _) | (with_reducible refine Kd.C_drew ?_))); (case side2 => exact HC0.out); rintro e w' ⟨rfl, ⟨nd, rfl⟩⟩; refine ⟨_, rfl, ?_⟩)
    | ((with_reducible refine gate_callee (f := 18) rfl ?_); refine goesL_ (some 27) rfl rfl Tryd.func18 (by kernel_rfl) rfl #[.slice A0 l0.length c0] rfl (by (try simp only [List.map_toArray, List.map_cons, List.map_nil]); first | done | rfl | (simp only [List.length_drop, List.length_take]; rfl)) ?_; (with_reducible refine (laws_toStringS.calls k _ _ l0 l0 _ ?side1 ?side2 HTO.out).mono ?_); (case side1 => repeat (first | exact (Kd.C_below HR0.out HB.out) | (with_reducible refine Kd.C_alloc ?_ _) | (with_reducible refine Kd.C_drewN ?_ _) | (with_reducible refine Kd.C_drew ?_))); (case side2 => exact HC0.out); rintro e w27 ⟨v27, rfl, ho0, hb⟩; refine ⟨_, rfl, ?_⟩; have n_HY := Aside0.mk (ho0); have n_HB := Aside0.mk (below_step (by repeat (first | (with_reducible first | exact HB.out | apply below_alloc | apply pw_below_drewN | apply below_drew1) | exact HB.out)) hb); (try clear HY); (try clear HB); have HY := n_HY; have HB := n_HB; clear n_HY; clear n_HB; (try clear hb); (try clear ho0); (try clear ho1); (try clear hkp); (try clear hy0); obtain ⟨AHY, cHY, eHY⟩ := Kd.R_slice HY.out; subst eHY)
    | ((with_reducible refine gate_callee (f := 17) rfl ?_); refine goesL_ (some 28) rfl rfl Tryd.func17 (by kernel_rfl) rfl #[.slice AHY l0.length cHY] rfl (by (try simp only [List.map_toArray, List.map_cons, List.map_nil]); first | done | rfl | (simp only [List.length_drop, List.length_take]; rfl)) ?_; (with_reducible refine (HSP.out AHY cHY _ ?side1).mono ?_); (case side1 => repeat (first | exact (Kd.R_reads' HY.out).2.2 | (with_reducible refine Kd.C_alloc ?_ _) | (with_reducible refine Kd.C_drewN ?_ _) | (with_reducible refine Kd.C_drew ?_))); rintro e w28 ⟨vW0, vW1, rfl, ho0, ho1, hb⟩; refine ⟨_, rfl, ?_⟩; obtain ⟨a_, ea_⟩ : ∃ a_, a_ = w28.heap.size := ⟨_, rfl⟩; have HA := Aside0.mk (Nat.le_of_eq ea_); have LW0 := Aside0.mk (show ∀ q, vW0.ownBlock = some q → q < a_ from fun q e => by rw [ea_]; exact Kd.R_lt ho0 q e); have LW1 := Aside0.mk (show ∀ q, vW1.ownBlock = some q → q < a_ from fun q e => by rw [ea_]; exact Kd.R_lt ho1 q e); clear HY; have n_HW0 := Aside0.mk (Kd.R_lower ho0 (below_size (by repeat (first | (with_reducible first | exact HB.out | apply below_alloc | apply pw_below_drewN | apply below_drew1) | exact HB.out)))); have n_HW1 := Aside0.mk (Kd.R_lower ho1 (below_size (by repeat (first | (with_reducible first | exact HB.out | apply below_alloc | apply pw_below_drewN | apply below_drew1) | exact HB.out)))); have n_HB := Aside0.mk (below_step (by repeat (first | (with_reducible first | exact HB.out | apply below_alloc | apply pw_below_drewN | apply below_drew1) | exact HB.out)) hb); (try clear HW0); (try clear HW1); (try clear HB); have HW0 := n_HW0; have HW1 := n_HW1; have HB := n_HB; clear n_HW0; clear n_HW1; clear n_HB; (try clear hb); (try clear ho0); (try clear ho1); (try clear hkp); (try clear hy0); clear ea_)
    | ((with_reducible refine gate_callee (f := 18) rfl ?_); refine goesL_ (some 34) rfl rfl Tryd.func18 (by kernel_rfl) rfl #[.slice A0 l0.length c0] rfl (by (try simp only [List.map_toArray, List.map_cons, List.map_nil]); first | done | rfl | (simp only [List.length_drop, List.length_take]; rfl)) ?_; (with_reducible refine (laws_toStringS.calls k _ _ l0 l0 _ ?side1 ?side2 HTO.out).mono ?_); (case side1 => repeat (first | exact (Kd.C_below HR0.out HB.out) | (with_reducible refine Kd.C_alloc ?_ _) | (with_reducible refine Kd.C_drewN ?_ _) | (with_reducible refine Kd.C_drew ?_))); (case side2 => exact HC0.out); rintro e w34 ⟨vX, rfl, ho0, hb⟩; refine ⟨_, rfl, ?_⟩; obtain ⟨b_, eb_⟩ : ∃ b_, b_ = w34.heap.size := ⟨_, rfl⟩; have HBB := Aside0.mk (Nat.le_of_eq eb_); have hab := Nat.le_trans HA.out hb.size; have HAB := Aside0.mk (show a_ ≤ b_ by rw [eb_]; exact hab); have LX := Aside0.mk (show ∀ q, vX.ownBlock = some q → a_ ≤ q ∧ q < b_ from fun q e => ⟨Nat.le_trans HA.out (Kd.R_base ho0 q e), by rw [eb_]; exact Kd.R_lt ho0 q e⟩); have n_HW0 := Aside0.mk (Kd.R_below (by (with_reducible repeat (first | apply Kd.R_alloc | apply Kd.R_drewN | apply Kd.R_drew)); exact HW0.out) hb); have n_HW1 := Aside0.mk (Kd.R_below (by (with_reducible repeat (first | apply Kd.R_alloc | apply Kd.R_drewN | apply Kd.R_drew)); exact HW1.out) hb); have n_HX := Aside0.mk (Kd.R_lower ho0 (below_size (by repeat (first | (with_reducible first | exact HB.out | apply below_alloc | apply pw_below_drewN | apply below_drew1) | exact HB.out)))); have n_HB := Aside0.mk (below_step (by repeat (first | (with_reducible first | exact HB.out | apply below_alloc | apply pw_below_drewN | apply below_drew1) | exact HB.out)) hb); (try clear HW0); (try clear HW1); (try clear HX); (try clear HB); have HW0 := n_HW0; have HW1 := n_HW1; have HX := n_HX; have HB := n_HB; clear n_HW0; clear n_HW1; clear n_HX; clear n_HB; (try clear hb); (try clear ho0); (try clear ho1); (try clear hkp); (try clear hy0); clear eb_ hab; obtain ⟨AX, cX, eX⟩ := Kd.R_slice HX.out; subst eX)
    | ((with_reducible refine gate_callee (f := 19) rfl ?_); refine goesL_ (some 37) rfl rfl Tryd.func19 (by kernel_rfl) rfl #[.slice AX l0.length cX] rfl (by (try simp only [List.map_toArray, List.map_cons, List.map_nil]); first | done | rfl | (simp only [List.length_drop, List.length_take]; rfl)) ?_; (with_reducible refine (HIM.out AX cX _ ?side1).mono ?_); (case side1 => repeat (first | exact (Kd.R_reads' HX.out).2.2 | (with_reducible refine Kd.C_alloc ?_ _) | (with_reducible refine Kd.C_drewN ?_ _) | (with_reducible refine Kd.C_drew ?_))); rintro e w37 ⟨vG0, vG1, rfl, ho0, ho1, hb⟩; refine ⟨_, rfl, ?_⟩; have LG0 := Aside0.mk (show ∀ q, vG0.ownBlock = some q → b_ ≤ q from fun q e => Nat.le_trans HBB.out (Kd.R_base ho0 q e)); have LG1 := Aside0.mk (show ∀ q, vG1.ownBlock = some q → b_ ≤ q from fun q e => Nat.le_trans HBB.out (Kd.R_base ho1 q e)); have SEP := Aside0.mk (show ∀ q, vG0.ownBlock = some q → vG1.ownBlock ≠ some q from fun q e e2 => ho0.1 q e e2.symm); have n_HW0 := Aside0.mk (Kd.R_below (by (with_reducible repeat (first | apply Kd.R_alloc | apply Kd.R_drewN | apply Kd.R_drew)); exact HW0.out) hb); have n_HW1 := Aside0.mk (Kd.R_below (by (with_reducible repeat (first | apply Kd.R_alloc | apply Kd.R_drewN | apply Kd.R_drew)); exact HW1.out) hb); have n_HX := Aside0.mk (Kd.R_below (by (with_reducible repeat (first | apply Kd.R_alloc | apply Kd.R_drewN | apply Kd.R_drew)); exact HX.out) hb); have n_HG0 := Aside0.mk (Kd.R_mono (ok' := fun _ => True) (Kd.R_lower ho0 (below_size (by repeat (first | (with_reducible first | exact HB.out | apply below_alloc | apply pw_below_drewN | apply below_drew1) | exact HB.out)))) (fun _ _ => trivial)); have n_HG1 := Aside0.mk (Kd.R_mono (ok' := fun _ => True) (Kd.R_lower ho1 (below_size (by repeat (first | (with_reducible first | exact HB.out | apply below_alloc | apply pw_below_drewN | apply below_drew1) | exact HB.out)))) (fun _ _ => trivial)); have n_HB := Aside0.mk (below_step (by repeat (first | (with_reducible first | exact HB.out | apply below_alloc | apply pw_below_drewN | apply below_drew1) | exact HB.out)) hb); (try clear HW0); (try clear HW1); (try clear HX); (try clear HG0); (try clear HG1); (try clear HB); have HW0 := n_HW0; have HW1 := n_HW1; have HX := n_HX; have HG0 := n_HG0; have HG1 := n_HG1; have HB := n_HB; clear n_HW0; clear n_HW1; clear n_HX; clear n_HG0; clear n_HG1; clear n_HB; (try clear hb); (try clear ho0); (try clear ho1); (try clear hkp); (try clear hy0); obtain ⟨AG0, cG0, eG0⟩ := Kd.R_slice HG0.out; subst eG0; obtain ⟨AG1, cG1, eG1⟩ := Kd.R_slice HG1.out; subst eG1; obtain ⟨AW0, cW0, eW0⟩ := Kd.R_slice HW0.out; subst eW0; obtain ⟨AW1, cW1, eW1⟩ := Kd.R_slice HW1.out; subst eW1)
    | ((with_reducible refine gate_callee (f := 20) rfl ?_); refine goesL_ (some 44) rfl rfl Tryd.func20 (by kernel_rfl) rfl #[.slice AG0 g0.length cG0, .slice AW0 g0.length cW0] rfl (by (try simp only [List.map_toArray, List.map_cons, List.map_nil]); first | done | rfl | (simp only [List.length_drop, List.length_take]; rfl)) ?_; (with_reducible refine (laws_eqIntS.calls k AG0 cG0 g0 AW0 cW0 g0 true _ ?side1 ?side2 ?side3 ?side4 HEQ_g0.out).mono ?_); (case side1 => repeat (first | exact (Kd.R_reads' HG0.out).2.2 | (with_reducible refine Kd.C_alloc ?_ _) | (with_reducible refine Kd.C_drewN ?_ _) | (with_reducible refine Kd.C_drew ?_))); (case side2 => exact (Kd.R_reads' HG0.out).2.1); (case side3 => repeat (first | exact (Kd.R_reads' HW0.out).2.2 | (with_reducible refine Kd.C_alloc ?_ _) | (with_reducible refine Kd.C_drewN ?_ _) | (with_reducible refine Kd.C_drew ?_))); (case side4 => exact (Kd.R_reads' HW0.out).2.1); rintro e w' ⟨rfl, ⟨nd, rfl⟩⟩; refine ⟨_, rfl, ?_⟩)
    | (go_at_call 20; (with_reducible refine (laws_eqIntS.calls k AG1 cG1 g1 AW1 cW1 g1 true _ ?side1 ?side2 ?side3 ?side4 HEQ_g1.out).mono ?_); (case side1 => repeat (first | exact (Kd.R_reads' HG1.out).2.2 | (with_reducible refine Kd.C_alloc ?_ _) | (with_reducible refine Kd.C_drewN ?_ _) | (with_reducible refine Kd.C_drew ?_))); (case side2 => exact (Kd.R_reads' HG1.out).2.1); (case side3 => repeat (first | exact (Kd.R_reads' HW1.out).2.2 | (with_reducible refine Kd.C_alloc ?_ _) | (with_reducible refine Kd.C_drewN ?_ _) | (with_reducible refine Kd.C_drew ?_))); (case side4 => exact (Kd.R_reads' HW1.out).2.1); rintro e w' ⟨rfl, ⟨nd, rfl⟩⟩)
    | ((with_reducible refine gate_callee (f := 18) rfl ?_); refine goesL_ (some 64) rfl rfl Tryd.func18 (by kernel_rfl) rfl #[.slice A0 l0.length c0] rfl (by (try simp only [List.map_toArray, List.map_cons, List.map_nil]); first | done | rfl | (simp only [List.length_drop, List.length_take]; rfl)) ?_; (with_reducible refine (laws_toStringS.calls k _ _ l0 l0 _ ?side1 ?side2 HTO.out).mono ?_); (case side1 => repeat (first | exact (Kd.C_below HR0.out HB.out) | (with_reducible refine Kd.C_alloc ?_ _) | (with_reducible refine Kd.C_drewN ?_ _) | (with_reducible refine Kd.C_drew ?_))); (case side2 => exact HC0.out); rintro e w64 ⟨v64, rfl, ho0, hb⟩; refine ⟨_, rfl, ?_⟩; have n_HW0 := Aside0.mk (Kd.R_below (by (with_reducible repeat (first | apply Kd.R_alloc | apply Kd.R_drewN | apply Kd.R_drew)); exact HW0.out) hb); have n_HW1 := Aside0.mk (Kd.R_below (by (with_reducible repeat (first | apply Kd.R_alloc | apply Kd.R_drewN | apply Kd.R_drew)); exact HW1.out) hb); have n_HX := Aside0.mk (Kd.R_below (by (with_reducible repeat (first | apply Kd.R_alloc | apply Kd.R_drewN | apply Kd.R_drew)); exact HX.out) hb); have n_HG0 := Aside0.mk (Kd.R_below (by (with_reducible repeat (first | apply Kd.R_alloc | apply Kd.R_drewN | apply Kd.R_drew)); exact HG0.out) hb); have n_HG1 := Aside0.mk (Kd.R_below (by (with_reducible repeat (first | apply Kd.R_alloc | apply Kd.R_drewN | apply Kd.R_drew)); exact HG1.out) hb); have n_HZ := Aside0.mk (ho0); have n_HB := Aside0.mk (below_step (by repeat (first | (with_reducible first | exact HB.out | apply below_alloc | apply pw_below_drewN | apply below_drew1) | exact HB.out)) hb); (try clear HW0); (try clear HW1); (try clear HX); (try clear HG0); (try clear HG1); (try clear HZ); (try clear HB); have HW0 := n_HW0; have HW1 := n_HW1; have HX := n_HX; have HG0 := n_HG0; have HG1 := n_HG1; have HZ := n_HZ; have HB := n_HB; clear n_HW0; clear n_HW1; clear n_HX; clear n_HG0; clear n_HG1; clear n_HZ; clear n_HB; (try clear hb); (try clear ho0); (try clear ho1); (try clear hkp); (try clear hy0); obtain ⟨AHZ, cHZ, eHZ⟩ := Kd.R_slice HZ.out; subst eHZ)
    | ((with_reducible refine gate_callee (f := 21) rfl ?_); refine goesL_ (some 65) rfl rfl Tryd.func21 (by kernel_rfl) rfl #[.slice AX l0.length cX, .slice AHZ l0.length cHZ] rfl (by (try simp only [List.map_toArray, List.map_cons, List.map_nil]); first | done | rfl | (simp only [List.length_drop, List.length_take]; rfl)) ?_; (with_reducible refine (laws_eqStringS.calls k _ _ l0 _ _ l0 true _ ?side1 ?side2 ?side3 ?side4 HES.out).mono ?_); (case side1 => repeat (first | exact (Kd.R_reads' HX.out).2.2 | (with_reducible refine Kd.C_alloc ?_ _) | (with_reducible refine Kd.C_drewN ?_ _) | (with_reducible refine Kd.C_drew ?_))); (case side2 => exact (Kd.R_reads' HX.out).2.1); (case side3 => repeat (first | exact (Kd.R_reads' HZ.out).2.2 | (with_reducible refine Kd.C_alloc ?_ _) | (with_reducible refine Kd.C_drewN ?_ _) | (with_reducible refine Kd.C_drew ?_))); (case side4 => exact (Kd.R_reads' HZ.out).2.1); rintro e w' ⟨rfl, ⟨nd, rfl⟩⟩; refine ⟨_, rfl, ?_⟩; clear HZ)
    | ((with_reducible refine gate_callee (f := 22) rfl ?_); refine goesL_ (some 69) rfl rfl Tryd.func22 (by kernel_rfl) rfl #[.slice AX l0.length cX, .int .i64 1] rfl (by (try simp only [List.map_toArray, List.map_cons, List.map_nil]); first | done | rfl | (simp only [List.length_drop, List.length_take]; rfl)) ?_; (with_reducible refine (laws_markStringS.calls k (fun q => some q = (Value.slice AX l0.length cX).ownBlock) (.slice AX l0.length cX) l0 1 m0 x1 w _ ?side1 ?side2 HMS.out).mono ?_); (case side1 => repeat (first | (with_reducible first | exact HB.out | apply below_alloc | apply pw_below_drewN | apply below_drew1) | exact HB.out)); (case side2 => exact Kd.R_tight rfl (by (with_reducible repeat (first | apply Kd.R_alloc | apply Kd.R_drewN | apply Kd.R_drew)); exact HX.out)); rintro e w69 ⟨rfl, hy0, hb, hkp⟩; refine ⟨_, rfl, ?_⟩; have n_HW0 := Aside0.mk (row_kept (by (with_reducible repeat (first | apply Kd.R_alloc | apply Kd.R_drewN | apply Kd.R_drew)); exact HW0.out) hkp (fun q e1 e2 => by have h1 := LW0.out q e1; have h2 := LX.out q e2.symm; omega)); have n_HW1 := Aside0.mk (row_kept (by (with_reducible repeat (first | apply Kd.R_alloc | apply Kd.R_drewN | apply Kd.R_drew)); exact HW1.out) hkp (fun q e1 e2 => by have h1 := LW1.out q e1; have h2 := LX.out q e2.symm; omega)); have n_HG0 := Aside0.mk (row_kept (by (with_reducible repeat (first | apply Kd.R_alloc | apply Kd.R_drewN | apply Kd.R_drew)); exact HG0.out) hkp (fun q e1 e2 => by have h1 := LG0.out q e1; have h2 := LX.out q e2.symm; omega)); have n_HG1 := Aside0.mk (row_kept (by (with_reducible repeat (first | apply Kd.R_alloc | apply Kd.R_drewN | apply Kd.R_drew)); exact HG1.out) hkp (fun q e1 e2 => by have h1 := LG1.out q e1; have h2 := LX.out q e2.symm; omega)); have n_HB := Aside0.mk (hb); (try clear HW0); (try clear HW1); (try clear HG0); (try clear HG1); (try clear HB); have HW0 := n_HW0; have HW1 := n_HW1; have HG0 := n_HG0; have HG1 := n_HG1; have HB := n_HB; clear n_HW0; clear n_HW1; clear n_HG0; clear n_HG1; clear n_HB; clear HX; (try clear hb); (try clear ho0); (try clear ho1); (try clear hkp); (try clear hy0))
    | (go_at_call 20; (with_reducible refine (laws_eqIntS.calls k AG0 cG0 g0 AW0 cW0 g0 true _ ?side1 ?side2 ?side3 ?side4 HEQ_g0.out).mono ?_); (case side1 => repeat (first | exact (Kd.R_reads' HG0.out).2.2 | (with_reducible refine Kd.C_alloc ?_ _) | (with_reducible refine Kd.C_drewN ?_ _) | (with_reducible refine Kd.C_drew ?_))); (case side2 => exact (Kd.R_reads' HG0.out).2.1); (case side3 => repeat (first | exact (Kd.R_reads' HW0.out).2.2 | (with_reducible refine Kd.C_alloc ?_ _) | (with_reducible refine Kd.C_drewN ?_ _) | (with_reducible refine Kd.C_drew ?_))); (case side4 => exact (Kd.R_reads' HW0.out).2.1); rintro e w' ⟨rfl, ⟨nd, rfl⟩⟩)
    | (go_at_call 20; (with_reducible refine (laws_eqIntS.calls k AG1 cG1 g1 AW1 cW1 g1 true _ ?side1 ?side2 ?side3 ?side4 HEQ_g1.out).mono ?_); (case side1 => repeat (first | exact (Kd.R_reads' HG1.out).2.2 | (with_reducible refine Kd.C_alloc ?_ _) | (with_reducible refine Kd.C_drewN ?_ _) | (with_reducible refine Kd.C_drew ?_))); (case side2 => exact (Kd.R_reads' HG1.out).2.1); (case side3 => repeat (first | exact (Kd.R_reads' HW1.out).2.2 | (with_reducible refine Kd.C_alloc ?_ _) | (with_reducible refine Kd.C_drewN ?_ _) | (with_reducible refine Kd.C_drew ?_))); (case side4 => exact (Kd.R_reads' HW1.out).2.1); rintro e w' ⟨rfl, ⟨nd, rfl⟩⟩)
    | ((with_reducible refine gate_callee (f := 23) rfl ?_); refine goesL_ (some 96) rfl rfl Tryd.func23 (by kernel_rfl) rfl #[.slice AG0 g0.length cG0, .int .i64 1] rfl (by (try simp only [List.map_toArray, List.map_cons, List.map_nil]); first | done | rfl | (simp only [List.length_drop, List.length_take]; rfl)) ?_; (with_reducible refine (laws_markIntS.calls k (fun q => some q = (Value.slice AG0 g0.length cG0).ownBlock) (.slice AG0 g0.length cG0) g0 1 m1 h0 w _ ?side1 ?side2 HM1.out).mono ?_); (case side1 => repeat (first | (with_reducible first | exact HB.out | apply below_alloc | apply pw_below_drewN | apply below_drew1) | exact HB.out)); (case side2 => exact Kd.R_tight rfl (by (with_reducible repeat (first | apply Kd.R_alloc | apply Kd.R_drewN | apply Kd.R_drew)); exact HG0.out)); rintro e w96 ⟨rfl, hy0, hb, hkp⟩; refine ⟨_, rfl, ?_⟩; have n_HW0 := Aside0.mk (row_kept (by (with_reducible repeat (first | apply Kd.R_alloc | apply Kd.R_drewN | apply Kd.R_drew)); exact HW0.out) hkp (fun q e1 e2 => by have h1 := LW0.out q e1; have h2 := LG0.out q e2.symm; have := HAB.out; omega)); have n_HW1 := Aside0.mk (row_kept (by (with_reducible repeat (first | apply Kd.R_alloc | apply Kd.R_drewN | apply Kd.R_drew)); exact HW1.out) hkp (fun q e1 e2 => by have h1 := LW1.out q e1; have h2 := LG0.out q e2.symm; have := HAB.out; omega)); have n_HG1 := Aside0.mk (row_kept (by (with_reducible repeat (first | apply Kd.R_alloc | apply Kd.R_drewN | apply Kd.R_drew)); exact HG1.out) hkp (fun q e1 e2 => SEP.out q e2.symm e1)); have n_HG0 := Aside0.mk (Kd.R_mono (ok' := fun _ => True) hy0 (fun _ _ => trivial)); have n_HB := Aside0.mk (hb); (try clear HW0); (try clear HW1); (try clear HG1); (try clear HG0); (try clear HB); have HW0 := n_HW0; have HW1 := n_HW1; have HG1 := n_HG1; have HG0 := n_HG0; have HB := n_HB; clear n_HW0; clear n_HW1; clear n_HG1; clear n_HG0; clear n_HB; (try clear hb); (try clear ho0); (try clear ho1); (try clear hkp); (try clear hy0))
    | ((with_reducible refine gate_callee (f := 23) rfl ?_); refine goesL_ (some 99) rfl rfl Tryd.func23 (by kernel_rfl) rfl #[.slice AG1 g1.length cG1, .int .i64 m1] rfl (by (try simp only [List.map_toArray, List.map_cons, List.map_nil]); first | done | rfl | (simp only [List.length_drop, List.length_take]; rfl)) ?_; (with_reducible refine (laws_markIntS.calls k (fun q => some q = (Value.slice AG1 g1.length cG1).ownBlock) (.slice AG1 g1.length cG1) g1 m1 m2 h1 w _ ?side1 ?side2 HM2.out).mono ?_); (case side1 => repeat (first | (with_reducible first | exact HB.out | apply below_alloc | apply pw_below_drewN | apply below_drew1) | exact HB.out)); (case side2 => exact Kd.R_tight rfl (by (with_reducible repeat (first | apply Kd.R_alloc | apply Kd.R_drewN | apply Kd.R_drew)); exact HG1.out)); rintro e w99 ⟨rfl, hy0, hb, hkp⟩; refine ⟨_, rfl, ?_⟩; have n_HW0 := Aside0.mk (row_kept (by (with_reducible repeat (first | apply Kd.R_alloc | apply Kd.R_drewN | apply Kd.R_drew)); exact HW0.out) hkp (fun q e1 e2 => by have h1 := LW0.out q e1; have h2 := LG1.out q e2.symm; have := HAB.out; omega)); have n_HW1 := Aside0.mk (row_kept (by (with_reducible repeat (first | apply Kd.R_alloc | apply Kd.R_drewN | apply Kd.R_drew)); exact HW1.out) hkp (fun q e1 e2 => by have h1 := LW1.out q e1; have h2 := LG1.out q e2.symm; have := HAB.out; omega)); have n_HG0 := Aside0.mk (row_kept (by (with_reducible repeat (first | apply Kd.R_alloc | apply Kd.R_drewN | apply Kd.R_drew)); exact HG0.out) hkp (fun q e1 e2 => SEP.out q e1 e2.symm)); have n_HG1 := Aside0.mk (Kd.R_mono (ok' := fun _ => True) hy0 (fun _ _ => trivial)); have n_HB := Aside0.mk (hb); (try clear HW0); (try clear HW1); (try clear HG0); (try clear HG1); (try clear HB); have HW0 := n_HW0; have HW1 := n_HW1; have HG0 := n_HG0; have HG1 := n_HG1; have HB := n_HB; clear n_HW0; clear n_HW1; clear n_HG0; clear n_HG1; clear n_HB; (try clear hb); (try clear ho0); (try clear ho1); (try clear hkp); (try clear hy0))
    | ((with_reducible refine gate_callee (f := 24) rfl ?_); refine goesL_ (some 102) rfl rfl Tryd.func24 (by kernel_rfl) rfl #[.slice AG0 h0.length cG0, .int .i64 1] rfl (by (try simp only [List.map_toArray, List.map_cons, List.map_nil]); first | done | (rw [← (Kd.R_reads' HG0.out).1]; done) | (rw [← (Kd.R_reads' HG0.out).1]; rfl) | rfl | (simp only [List.length_drop, List.length_take]; rfl)) ?_; (with_reducible refine (laws_heldIntS.calls k _ _ h0 1 m1 _ ?side1 ?side2 HH1.out).mono ?_); (case side1 => repeat (first | exact (Kd.R_reads' HG0.out).2.2 | (with_reducible refine Kd.C_alloc ?_ _) | (with_reducible refine Kd.C_drewN ?_ _) | (with_reducible refine Kd.C_drew ?_))); (case side2 => (rw [← (Kd.R_reads' HG0.out).1]; exact (Kd.R_reads' HG0.out).2.1)); rintro e w' ⟨rfl, ⟨nd, rfl⟩⟩; refine ⟨_, rfl, ?_⟩)
    | ((with_reducible refine gate_callee (f := 24) rfl ?_); refine goesL_ (some 107) rfl rfl Tryd.func24 (by kernel_rfl) rfl #[.slice AG1 h1.length cG1, .int .i64 m1] rfl (by (try simp only [List.map_toArray, List.map_cons, List.map_nil]); first | done | (rw [← (Kd.R_reads' HG1.out).1]; done) | (rw [← (Kd.R_reads' HG1.out).1]; rfl) | rfl | (simp only [List.length_drop, List.length_take]; rfl)) ?_; (with_reducible refine (laws_heldIntS.calls k _ _ h1 m1 m2 _ ?side1 ?side2 HH2.out).mono ?_); (case side1 => repeat (first | exact (Kd.R_reads' HG1.out).2.2 | (with_reducible refine Kd.C_alloc ?_ _) | (with_reducible refine Kd.C_drewN ?_ _) | (with_reducible refine Kd.C_drew ?_))); (case side2 => (rw [← (Kd.R_reads' HG1.out).1]; exact (Kd.R_reads' HG1.out).2.1)); rintro e w' ⟨rfl, ⟨nd, rfl⟩⟩; refine ⟨_, rfl, ?_⟩)
    | ((with_reducible refine gate_callee (f := 18) rfl ?_); refine goesL_ (some 115) rfl rfl Tryd.func18 (by kernel_rfl) rfl #[.slice A0 l0.length c0] rfl (by (try simp only [List.map_toArray, List.map_cons, List.map_nil]); first | done | rfl | (simp only [List.length_drop, List.length_take]; rfl)) ?_; (with_reducible refine (laws_toStringS.calls k _ _ l0 l0 _ ?side1 ?side2 HTO.out).mono ?_); (case side1 => repeat (first | exact (Kd.C_below HR0.out HB.out) | (with_reducible refine Kd.C_alloc ?_ _) | (with_reducible refine Kd.C_drewN ?_ _) | (with_reducible refine Kd.C_drew ?_))); (case side2 => exact HC0.out); rintro e w115 ⟨v115, rfl, ho0, hb⟩; refine ⟨_, rfl, ?_⟩; have n_HW0 := Aside0.mk (Kd.R_below (by (with_reducible repeat (first | apply Kd.R_alloc | apply Kd.R_drewN | apply Kd.R_drew)); exact HW0.out) hb); have n_HW1 := Aside0.mk (Kd.R_below (by (with_reducible repeat (first | apply Kd.R_alloc | apply Kd.R_drewN | apply Kd.R_drew)); exact HW1.out) hb); have n_HG0 := Aside0.mk (Kd.R_below (by (with_reducible repeat (first | apply Kd.R_alloc | apply Kd.R_drewN | apply Kd.R_drew)); exact HG0.out) hb); have n_HG1 := Aside0.mk (Kd.R_below (by (with_reducible repeat (first | apply Kd.R_alloc | apply Kd.R_drewN | apply Kd.R_drew)); exact HG1.out) hb); have n_HY2 := Aside0.mk (ho0); have n_HB := Aside0.mk (below_step (by repeat (first | (with_reducible first | exact HB.out | apply below_alloc | apply pw_below_drewN | apply below_drew1) | exact HB.out)) hb); (try clear HW0); (try clear HW1); (try clear HG0); (try clear HG1); (try clear HY2); (try clear HB); have HW0 := n_HW0; have HW1 := n_HW1; have HG0 := n_HG0; have HG1 := n_HG1; have HY2 := n_HY2; have HB := n_HB; clear n_HW0; clear n_HW1; clear n_HG0; clear n_HG1; clear n_HY2; clear n_HB; (try clear hb); (try clear ho0); (try clear ho1); (try clear hkp); (try clear hy0); obtain ⟨AHY2, cHY2, eHY2⟩ := Kd.R_slice HY2.out; subst eHY2)
    | ((with_reducible refine gate_callee (f := 19) rfl ?_); refine goesL_ (some 116) rfl rfl Tryd.func19 (by kernel_rfl) rfl #[.slice AHY2 l0.length cHY2] rfl (by (try simp only [List.map_toArray, List.map_cons, List.map_nil]); first | done | rfl | (simp only [List.length_drop, List.length_take]; rfl)) ?_; (with_reducible refine (HIM.out AHY2 cHY2 _ ?side1).mono ?_); (case side1 => repeat (first | exact (Kd.R_reads' HY2.out).2.2 | (with_reducible refine Kd.C_alloc ?_ _) | (with_reducible refine Kd.C_drewN ?_ _) | (with_reducible refine Kd.C_drew ?_))); rintro e w116 ⟨vK0, vK1, rfl, ho0, ho1, hb⟩; refine ⟨_, rfl, ?_⟩; clear HY2; have n_HW0 := Aside0.mk (Kd.R_below (by (with_reducible repeat (first | apply Kd.R_alloc | apply Kd.R_drewN | apply Kd.R_drew)); exact HW0.out) hb); have n_HW1 := Aside0.mk (Kd.R_below (by (with_reducible repeat (first | apply Kd.R_alloc | apply Kd.R_drewN | apply Kd.R_drew)); exact HW1.out) hb); have n_HG0 := Aside0.mk (Kd.R_below (by (with_reducible repeat (first | apply Kd.R_alloc | apply Kd.R_drewN | apply Kd.R_drew)); exact HG0.out) hb); have n_HG1 := Aside0.mk (Kd.R_below (by (with_reducible repeat (first | apply Kd.R_alloc | apply Kd.R_drewN | apply Kd.R_drew)); exact HG1.out) hb); have n_HK0 := Aside0.mk (ho0); have n_HK1 := Aside0.mk (ho1); have n_HB := Aside0.mk (below_step (by repeat (first | (with_reducible first | exact HB.out | apply below_alloc | apply pw_below_drewN | apply below_drew1) | exact HB.out)) hb); (try clear HW0); (try clear HW1); (try clear HG0); (try clear HG1); (try clear HK0); (try clear HK1); (try clear HB); have HW0 := n_HW0; have HW1 := n_HW1; have HG0 := n_HG0; have HG1 := n_HG1; have HK0 := n_HK0; have HK1 := n_HK1; have HB := n_HB; clear n_HW0; clear n_HW1; clear n_HG0; clear n_HG1; clear n_HK0; clear n_HK1; clear n_HB; (try clear hb); (try clear ho0); (try clear ho1); (try clear hkp); (try clear hy0); obtain ⟨AK0, cK0, eK0⟩ := Kd.R_slice HK0.out; subst eK0; obtain ⟨AK1, cK1, eK1⟩ := Kd.R_slice HK1.out; subst eK1)
    | ((with_reducible refine gate_callee (f := 20) rfl ?_); refine goesL_ (some 123) rfl rfl Tryd.func20 (by kernel_rfl) rfl #[.slice AK0 g0.length cK0, .slice AW0 g0.length cW0] rfl (by (try simp only [List.map_toArray, List.map_cons, List.map_nil]); first | done | rfl | (simp only [List.length_drop, List.length_take]; rfl)) ?_; (with_reducible refine (laws_eqIntS.calls k AK0 cK0 g0 AW0 cW0 g0 true _ ?side1 ?side2 ?side3 ?side4 HEQ_g0.out).mono ?_); (case side1 => repeat (first | exact (Kd.R_reads' HK0.out).2.2 | (with_reducible refine Kd.C_alloc ?_ _) | (with_reducible refine Kd.C_drewN ?_ _) | (with_reducible refine Kd.C_drew ?_))); (case side2 => exact (Kd.R_reads' HK0.out).2.1); (case side3 => repeat (first | exact (Kd.R_reads' HW0.out).2.2 | (with_reducible refine Kd.C_alloc ?_ _) | (with_reducible refine Kd.C_drewN ?_ _) | (with_reducible refine Kd.C_drew ?_))); (case side4 => exact (Kd.R_reads' HW0.out).2.1); rintro e w' ⟨rfl, ⟨nd, rfl⟩⟩; refine ⟨_, rfl, ?_⟩)
    | (go_at_call 20; (with_reducible refine (laws_eqIntS.calls k AK1 cK1 g1 AW1 cW1 g1 true _ ?side1 ?side2 ?side3 ?side4 HEQ_g1.out).mono ?_); (case side1 => repeat (first | exact (Kd.R_reads' HK1.out).2.2 | (with_reducible refine Kd.C_alloc ?_ _) | (with_reducible refine Kd.C_drewN ?_ _) | (with_reducible refine Kd.C_drew ?_))); (case side2 => exact (Kd.R_reads' HK1.out).2.1); (case side3 => repeat (first | exact (Kd.R_reads' HW1.out).2.2 | (with_reducible refine Kd.C_alloc ?_ _) | (with_reducible refine Kd.C_drewN ?_ _) | (with_reducible refine Kd.C_drew ?_))); (case side4 => exact (Kd.R_reads' HW1.out).2.1); rintro e w' ⟨rfl, ⟨nd, rfl⟩⟩)
    | ((with_reducible refine gate_callee (f := 24) rfl ?_); refine goesL_ (some 143) rfl rfl Tryd.func24 (by kernel_rfl) rfl #[.slice AG0 h0.length cG0, .int .i64 1] rfl (by (try simp only [List.map_toArray, List.map_cons, List.map_nil]); first | done | (rw [← (Kd.R_reads' HG0.out).1]; done) | (rw [← (Kd.R_reads' HG0.out).1]; rfl) | rfl | (simp only [List.length_drop, List.length_take]; rfl)) ?_; (with_reducible refine (laws_heldIntS.calls k _ _ h0 1 m1 _ ?side1 ?side2 HH1.out).mono ?_); (case side1 => repeat (first | exact (Kd.R_reads' HG0.out).2.2 | (with_reducible refine Kd.C_alloc ?_ _) | (with_reducible refine Kd.C_drewN ?_ _) | (with_reducible refine Kd.C_drew ?_))); (case side2 => (rw [← (Kd.R_reads' HG0.out).1]; exact (Kd.R_reads' HG0.out).2.1)); rintro e w' ⟨rfl, ⟨nd, rfl⟩⟩; refine ⟨_, rfl, ?_⟩)
    | ((with_reducible refine gate_callee (f := 24) rfl ?_); refine goesL_ (some 148) rfl rfl Tryd.func24 (by kernel_rfl) rfl #[.slice AG1 h1.length cG1, .int .i64 m1] rfl (by (try simp only [List.map_toArray, List.map_cons, List.map_nil]); first | done | (rw [← (Kd.R_reads' HG1.out).1]; done) | (rw [← (Kd.R_reads' HG1.out).1]; rfl) | rfl | (simp only [List.length_drop, List.length_take]; rfl)) ?_; (with_reducible refine (laws_heldIntS.calls k _ _ h1 m1 m2 _ ?side1 ?side2 HH2.out).mono ?_); (case side1 => repeat (first | exact (Kd.R_reads' HG1.out).2.2 | (with_reducible refine Kd.C_alloc ?_ _) | (with_reducible refine Kd.C_drewN ?_ _) | (with_reducible refine Kd.C_drew ?_))); (case side2 => (rw [← (Kd.R_reads' HG1.out).1]; exact (Kd.R_reads' HG1.out).2.1)); rintro e w' ⟨rfl, ⟨nd, rfl⟩⟩; refine ⟨_, rfl, ?_⟩))
    go_ret
    exact ⟨rfl, by repeat (first | (with_reducible first | exact HB.out | apply below_alloc | apply pw_below_drewN | apply below_drew1) | exact HB.out)⟩
/-- THE ONE PURE STATEMENT of laws_FnExactRowsAndColumns. -/
def laws_FnExactRowsAndColumns.Pure : Prop := ∀ (l0 : List ByteArray), l0.length ≤ maxLen → l0.length * 16 ≤ 140737488351232 → (∀ x ∈ l0, x.size ≤ maxLen) → ∃ k, laws_FnExactRowsAndColumns.Ok k l0
theorem laws_FnExactRowsAndColumns.walk (P : laws_FnExactRowsAndColumns.Pure) (a0 : Option Addr) (l0 : List ByteArray) (cap0 : Nat) (w : World) (hr0 : Kd.string.C w a0 l0.length l0) (hc0 : l0.length ≤ cap0) (hm0 : l0.length ≤ maxLen) (y0 : l0.length * 16 ≤ 140737488351232) (hw0 : (∀ x ∈ l0, x.size ≤ maxLen)) :
    Calls Tryd.prog 5 #[.slice a0 l0.length cap0] w fun e w' => e = .returned (.bool true) ∧ Below w.heap.size w w' := by
  obtain ⟨k, h⟩ := P l0 hm0 y0 hw0
  exact laws_FnExactRowsAndColumns.calls k _ _ l0 w hr0 hc0 h
end Go.Proofs.YtghfhcmjnpjgdaaDoor.S
