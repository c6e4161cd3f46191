-- Laid by a program of this session (wip/pp.py) over the seat's translation, with its own texts for some functions.
import Derived.Test.YtghfhcmjnpjgdaaS0
import Derived.Test.YtghfhcmjnpjgdaaS6
import Derived.Test.YtghfhcmjnpjgdaaS7
namespace Go.Proofs.Ytghfhcmjnpjgdaa.S
open Go.RowKit Go.Proofs.YtghfhcmjnpjgdaaW.PrintWords Go.Proofs.YtghfhcmjnpjgdaaW.PrintLast Go.Proofs.YtghfhcmjnpjgdaaW.PrintMore
attribute [local go_sem] max2_int min2_int max_two min_two max_three min_three max_four min_four   -- for this text's walks alone
set_option linter.unusedVariables false
set_option linter.unusedSimpArgs false

/-! ### slices_Repeat_string_string: function 28 -/
theorem rps_mul (m : Nat) (hm : m ≤ 1048576) : bits_Mul.f 1 (m : Int) = some (0, (m : Int)) := by
  have e1 : Go.bits .and .u64 1 4294967295 = 1 := by decide
  have e2 : Go.bits .and .u64 (m : Int) 4294967295 = (m : Int) := by
    have h := u64_and_nat m 4294967295 (by omega) (by omega)
    rw [nat_mask32, Nat.mod_eq_of_lt (by omega)] at h
    exact h
  have d1 : (1 : Int) / 4294967296 = 0 := by decide
  have d2 : (m : Int) / 4294967296 = 0 := by omega
  unfold bits_Mul.f bits_Mul64.f
  rw [e1, e2, d1, d2]
  simp only [Int.zero_mul, Int.mul_zero, Int.one_mul, Int.add_zero, Int.zero_add]
  have e3 : Go.bits .and .u64 0 4294967295 = 0 := by decide
  have u0 := IntWalk.u64_in 0 (by omega)
  have um := IntWalk.u64_in (m : Int) (by omega)
  have d0 : (0 : Int) / 4294967296 = 0 := by decide
  simp only [u0, um, d0, d2, e3, Int.zero_add, Int.add_zero, Option.bind_some]
theorem rps_made (m : Nat) : madeCells #[Value.string ⟨#[]⟩] m = (List.replicate m (Value.string ⟨#[]⟩)).toArray := by
  apply Array.ext
  · simp [size_madeCells]
  · intro i h1 h2
    simp [madeCells, Nat.mod_one]
theorem rps_splice (X Z : Value) (j k m : Nat) (h : j + k ≤ m) : splice (List.replicate j X ++ List.replicate (m - j) Z) j (List.replicate k X) = List.replicate (j + k) X ++ List.replicate (m - (j + k)) Z := by
  unfold splice
  rw [List.take_append_of_le_length (by simp), List.take_of_length_le (by simp), List.drop_append, List.drop_of_length_le (by first | (simp; done) | (simp; omega)), List.nil_append]
  simp only [List.length_replicate, List.drop_replicate]
  rw [← List.append_assoc, List.replicate_append_replicate]
  congr 2
  omega
def slices_Repeat_string_string.f (l0 : List ByteArray) (a1 : Int) : Option (List ByteArray) :=
  if l0.length = 1 then (if 0 ≤ a1 then (if a1 ≤ 1048576 then some (List.replicate a1.toNat (l0.getD 0 ByteArray.empty)) else none) else none) else none
set_option maxHeartbeats 2000000 in
theorem rps_walk (m : Nat) (hm : m ≤ 1048576) (A0 : Option Addr) (c0 : Nat) (x : ByteArray) (w : World) (hr : Kd.C Kd.string w A0 1 [x]) :
    Calls Try.prog 28 #[.slice A0 1 c0, .int .i64 (m : Int)] w fun e w' => ∃ v, e = .returned v ∧ Kd.R Kd.string 9 w' w.heap.size (fun _ => True) v (List.replicate m x) ∧ Below w.heap.size w w' := by
  obtain ⟨ad, e0, hx⟩ := Kd.at_string hr 0 (by omega) (by omega)
  cases e0
  replace hx : w.cell? (ad.add 0) = some (Value.string x) := hx
  have hadlt : ad.block < w.heap.size := by
    have h := World.block_lt_of_cell? w _ hx
    simpa [Addr.add] using h
  obtain ⟨i0, hi, hz0, hz1, hz2⟩ := info_parts info9
  have hmk : ∀ W : World, (Instr.makeSlice 32 (.int .i64 (m : Int)) (.int .i64 (m : Int))).run Try.prog W = .ok (.slice (some ⟨W.heap.size, 0, none⟩) m m) (W.alloc (.cells (List.replicate m (Value.string ⟨#[]⟩)).toArray 9)) := by
    intro W
    have h := run_make (P := Try.prog) W 32 9 i0 (Value.string ⟨#[]⟩) Try.underlying32 hi hz0 .i64 .i64 (m : Int) (m : Int) (by omega) (by omega) (by rw [hz2]; omega) (by omega)
    simp only [Int.toNat_natCast] at h
    rw [hz1, Nat.mul_one] at h
    rw [h]
    show Result.ok _ (W.alloc (.cells (madeCells #[Value.string ⟨#[]⟩] m) 9)) = _
    rw [rps_made]
  have hsz1 : (Try.prog.info? 9).map (·.size) = some 1 := by rw [hi]; simp [hz1]
  have HSZ := Lib.hid hsz1
  have HX := Lib.hid hx
  have HMUL := Lib.hid (rps_mul m hm)
  obtain ⟨X, hX⟩ : ∃ X : Value, X = Value.string x := ⟨_, rfl⟩
  have HXE := Lib.hid hX
  have hX1 : X.oneCell' = true := by rw [hX]; rfl
  have HX1 := Lib.hid hX1
  have HAD := Lib.hid hadlt
  have mpos : 0 ≤ (m : Int) := by omega
  clear hsz1 hx hX hX1 hz0 hz1 hz2 hi hr
  obtain ⟨k0, hk0⟩ : ∃ k : Nat, k = min 1 m := ⟨_, rfl⟩
  have hk1 : k0 ≤ 1 := by omega
  have hk2 : k0 ≤ m := by omega
  have hk3 : 1 ≤ k0 ∨ m = 0 := by omega
  have HK0 := Lib.hid hk0
  have HK3 := Lib.hid hk3
  clear hk0 hk3
  go_enter Try.func28, Try.ntmps28
  go_wp2_with (first | (go_at_call 39; (with_reducible refine (bits_Mul.calls 1 (m : Int) 0 (m : Int) _ HMUL.out).mono ?_); rintro e w' ⟨rfl, ⟨nd, rfl⟩⟩) | (with_reducible refine wpList_copy_splice rfl (.tmp 31) (.tmp 32) 32 32 rfl 9 Try.underlying32 HSZ.out _ _ _ _ _ _ rfl rfl w.heap.size 0 (List.replicate m (Value.string ⟨#[]⟩)) 9 ?c1 (List.replicate k0 X) ?c2 ?c3 ?c4 ?c5 w.heap.size w ?c6 (Nat.le_refl _) ?_))
  case c1 => first | exact heap_alloc_new _ _ | (rw [← List.toArray_replicate]; exact heap_alloc_new _ _)
  case c2 => rw [List.length_replicate, HK0.out]; first | done | rfl
  case c3 =>
    intro _
    first | refine ⟨rfl, ad, rfl, ?_⟩ | skip
    intro j v hj
    have hj1 : j < k0 := by
      have h := (List.getElem?_eq_some_iff.1 hj).1
      simpa using h
    rw [List.getElem?_replicate, if_pos hj1] at hj
    cases hj
    obtain rfl : j = 0 := by omega
    rw [World.cell?_alloc_lt _ _ _ (show (ad.add 0).block < _ from by simpa [Addr.add] using HAD.out), HXE.out]
    exact HX.out
  case c4 => first | (simp; done) | (simp; omega)
  case c5 => intro v hv; rw [List.mem_replicate] at hv; rw [hv.2]; exact HX1.out
  case c6 => exact (pw_below_drewN (Below.refl _ _) _).alloc (by simp) _
  · intro w2 HG2 hb2
    have HG3 : Hid (w2.heap[w.heap.size]? = some (.cells (List.replicate k0 X ++ List.replicate (m - k0) (Value.string ⟨#[]⟩)).toArray 9 (0, 0))) := by
      have h := HG2.out
      have h2 := rps_splice X (Value.string ⟨#[]⟩) 0 k0 m (by omega)
      simp only [List.replicate_zero, List.nil_append, Nat.sub_zero, Nat.zero_add] at h2
      rw [h2] at h
      exact Lib.hid h
    clear HG2
    have hlen0 : (List.replicate k0 X).length = k0 := List.length_replicate
    try rw [hlen0]
    clear hlen0
    have HB2 := Lib.hid hb2
    clear hb2
    go_wp2
    go_loopg [8] m (fun gg v8 wr => ∃ j : Nat, Hid (1 ≤ j ∨ m = 0) ∧ j ≤ m ∧ m - j ≤ gg ∧ v8 = .int .i64 (j : Int) ∧ Hid (wr.heap[w.heap.size]? = some (.cells (List.replicate j X ++ List.replicate (m - j) (Value.string ⟨#[]⟩)).toArray 9 (0, 0))) ∧ Hid (Below w.heap.size w wr))
    case atStart => exact ⟨k0, HK3, hk2, by omega, rfl, HG3, HB2⟩
    case round =>
      obtain ⟨j, hj1, hj2, hj3, rfl, HG, HB⟩ := hrel
      by_cases hlt : j < m
      · have hlt2 : (j : Int) < (m : Int) := by omega
        have hle2 : (j : Int) ≤ (m : Int) := by omega
        have hne : ¬ (j = m) := by omega
        have h0j : 0 ≤ (j : Int) := by omega
        obtain ⟨k, hk⟩ : ∃ k : Nat, k = min j (m - j) := ⟨_, rfl⟩
        have hj0 := hj1.out
        have hk1 : 1 ≤ k := by omega
        clear hj0
        have hk2 : j + k ≤ m := by omega
        have hk3 : k ≤ j := by omega
        have HK := Lib.hid hk
        clear hk
        have hfit : j + (List.replicate k X).length ≤ (List.replicate j X ++ List.replicate (m - j) (Value.string ⟨#[]⟩)).length := by
          simp only [List.length_append, List.length_replicate]
          omega
        have hone : ∀ v ∈ List.replicate k X, v.oneCell' = true := by intro v hv; rw [List.mem_replicate] at hv; rw [hv.2]; exact HX1.out
        have hnn : (List.replicate k X).length = Nat.min j (m - j) := by rw [List.length_replicate, HK.out]; first | done | rfl
        have hsrc : ∀ (i : Nat) (v : Value), (List.replicate k X)[i]? = some v → wr.cell? ((⟨w.heap.size, 0, none⟩ : Addr).add i) = some v := by
          intro i v hi
          have hil : i < k := by
            have h := (List.getElem?_eq_some_iff.1 hi).1
            simpa using h
          have hij : i < j := by omega
          rw [List.getElem?_replicate, if_pos hil] at hi
          cases hi
          rw [add_plain]
          rw [cell_of_row _ _ i _ _ (0, 0) HG.out]
          simp [List.getElem?_append_left, hij]
        have HF1 := Lib.hid hfit
        have HF2 := Lib.hid hone
        have HF3 := Lib.hid hnn
        have HF4 := Lib.hid hsrc
        clear hfit hone hnn hsrc
        have hsum : IntKind.i64.wrap ((j : Int) + (k : Int)) = (j : Int) + (k : Int) := IntWalk.i64_in _ (by omega)
        go_wp2
        go_region_law (refine step_copy_splice rfl (.tmp 41) (.tmp 44) 32 32 rfl 9 Try.underlying32 HSZ.out (some ⟨w.heap.size, j, none⟩) (some ⟨w.heap.size, 0, none⟩) (m - j) (m - j) j m (by first | (simp [Act.eval, Act.put]; done) | (simp [Act.eval, Act.put]; omega)) (by first | (simp [Act.eval, Act.put]; done) | (simp [Act.eval, Act.put]; omega)) w.heap.size j (List.replicate j X ++ List.replicate (m - j) (Value.string ⟨#[]⟩)) 9 HG.out (List.replicate k X) HF3.out (fun _ => ⟨rfl, _, rfl, HF4.out⟩) HF1.out HF2.out w.heap.size w (below_drew HB.out) (Nat.le_refl _) ?_; intro w3 HG4 hb4)
        all_goals
          have HG5 : Hid (w3.heap[w.heap.size]? = some (.cells (List.replicate (j + k) X ++ List.replicate (m - (j + k)) (Value.string ⟨#[]⟩)).toArray 9 (0, 0))) := by
            have h := HG4.out
            rw [rps_splice X (Value.string ⟨#[]⟩) j _ m (by omega)] at h
            exact Lib.hid h
          clear HG4
          have HB5 := Lib.hid hb4
          clear hb4
          have hlen : (List.replicate k X).length = k := List.length_replicate
          try rw [hlen]
          clear hlen hsum
          go_wp2
          go_roundg (m - (j + k))
          case measure => omega
          case rel => exact ⟨j + k, Lib.hid (by omega), by omega, by omega, by go_num, HG5, HB5⟩
      · have e1 : j = m := by omega
        subst e1
        go_wp2
        go_ret
        refine ⟨_, rfl, ?_, HB.out⟩
        have hg := HG.out
        simp only [Nat.sub_self, List.replicate_zero, List.append_nil] at hg
        refine Kd.R_of_own ?_ (fun _ _ => trivial)
        rw [List.length_replicate]
        refine ⟨by simp [encs], .inr ⟨w.heap.size, j, _, by simp, Nat.le_refl _, hg, Nat.le_refl _, by simp [maxLen]; omega, by simp, ?_⟩⟩
        simp [encs, HXE.out]
theorem slices_Repeat_string_string.calls (A0 : Option Addr) (c0 : Nat) (l0 : List ByteArray) (a1 : Int) (r : List ByteArray) (w : World) (hr0 : Kd.C Kd.string w A0 l0.length l0) (hc0 : l0.length ≤ c0) (h : slices_Repeat_string_string.f l0 a1 = some r) :
    Calls Try.prog 28 #[.slice A0 l0.length c0, .int .i64 a1] w fun e w' => ∃ v0_ : Value, e = .returned (v0_) ∧ Kd.R Kd.string 9 w' w.heap.size (fun _ => True) v0_ r ∧ Below w.heap.size w w' := by
  unfold slices_Repeat_string_string.f at h
  by_cases h1 : l0.length = 1
  · rw [if_pos h1] at h
    by_cases h2 : 0 ≤ a1
    · rw [if_pos h2] at h
      by_cases h3 : a1 ≤ 1048576
      · rw [if_pos h3] at h
        obtain ⟨m, rfl⟩ := Int.eq_ofNat_of_zero_le h2
        obtain ⟨x, rfl⟩ := List.length_eq_one_iff.mp h1
        obtain rfl := Option.some.inj h
        exact rps_walk m (by omega) A0 c0 x w hr0
      · rw [if_neg h3] at h
        exact absurd h (by simp)
    · rw [if_neg h2] at h
      exact absurd h (by simp)
  · rw [if_neg h1] at h
    exact absurd h (by simp)

end Go.Proofs.Ytghfhcmjnpjgdaa.S
