/- For all arguments the program's BitesToEat returns what the reference's BitesToEat returns. No condition. -/
import Derived.Test.YtipgbhjioffbnaaPFnExactBitesToEatx1
namespace Go.Proofs.Ytipgbhjioffbnaa.Pure
open Go.RowKit Go.Proofs.Ytipgbhjioffbnaa.PFnExactBitesToEat Go.Proofs.YtipgbhjioffbnaaW.PrintWords Go.Proofs.YtipgbhjioffbnaaW.PrintLast
set_option linter.unusedVariables false
set_option linter.unusedSimpArgs false

theorem w64 {x : Int} (h0 : -9223372036854775808 ≤ x) (h1 : x ≤ 9223372036854775807) : wrap64 x = x := by
  unfold wrap64
  omega
theorem wf_i64 {x : Int} (h : (Lit.int .i64 x).wf = true) : -9223372036854775808 ≤ x ∧ x ≤ 9223372036854775807 := by
  have hmin : IntKind.i64.min = -9223372036854775808 := rfl
  have hmax : IntKind.i64.max = 9223372036854775807 := rfl
  simp only [Lit.wf, Bool.and_eq_true, decide_eq_true_eq] at h
  omega

theorem l1In_eq (a b c : Int) : spec_l1In.f a b c = some (decide (b ≤ a ∧ a ≤ c)) := by
  unfold spec_l1In.f
  by_cases h : b ≤ a
  · rw [if_pos (show a ≥ b from h)]; simp [h]
  · rw [if_neg (show ¬ a ≥ b from h)]; simp [h]
theorem within_eq (a b c : Int) : impl_within.f a b c = some (decide (b ≤ a ∧ a ≤ c)) := by
  unfold impl_within.f
  by_cases h : b ≤ a
  · rw [if_pos h]; simp [h]
  · rw [if_neg h]; simp [h]
theorem within_l1In (a b c : Int) : impl_within.f a b c = spec_l1In.f a b c := by rw [within_eq, l1In_eq]

theorem skBite_eq (w p : Int) : spec_skBite.f w p = some (decide ((1 ≤ w ∧ w ≤ 1000000) ∧ 2 ≤ p ∧ p ≤ 100)) := by
  unfold spec_skBite.f
  simp only [l1In_eq, Option.bind_some]
  by_cases h : 1 ≤ w ∧ w ≤ 1000000
  · simp [h]
  · simp [h]
theorem isBitten_eq (w p : Int) : impl_isBitten.f w p = spec_skBite.f w p := by
  unfold impl_isBitten.f spec_skBite.f
  simp only [within_l1In]
theorem bite {w p : Int} (h0 : 0 < w) (h1 : w ≤ 1000000) (h2 : 2 ≤ p) (h3 : p ≤ 100) :
    ∃ w', wrap64 (w - (wrap64 (Int.tdiv (wrap64 ((wrap64 (w + p)) - 1)) p))) = w' ∧ 0 ≤ w' ∧ w' < w := by
  rw [w64 (x := w + p) (by omega) (by omega), w64 (x := w + p - 1) (by omega) (by omega), Int.tdiv_eq_ediv_of_nonneg (by omega)]
  have q1 : 1 ≤ (w + p - 1) / p := Int.le_ediv_of_mul_le (by omega) (by omega)
  have q2 : (w + p - 1) / p < w + 1 := by
    apply Int.ediv_lt_of_lt_mul (by omega)
    have e1 : (w + 1) * p = w * p + p := by rw [Int.add_mul, Int.one_mul]
    have e2 : w * 1 ≤ w * p := Int.mul_le_mul_of_nonneg_left (by omega) (by omega)
    omega
  generalize (w + p - 1) / p = q at *
  rw [w64 (x := q) (by omega) (by omega), w64 (x := w - q) (by omega) (by omega)]
  exact ⟨_, rfl, by omega, by omega⟩

theorem loops (k : Nat) : ∀ x0 x1 x6, impl_BitesToEat.l0 k x0 x1 x6 = spec_BitesToEat.l0 k x0 x1 x6 := by
  induction k with
  | zero => intros; rfl
  | succ k ih => intro x0 x1 x6; simp only [impl_BitesToEat.l0, spec_BitesToEat.l0, ih]
theorem same (k : Nat) (a b : Int) : impl_BitesToEat.f k a b = spec_BitesToEat.f k a b := by
  unfold impl_BitesToEat.f spec_BitesToEat.f
  simp only [isBitten_eq, loops]
theorem ends (d : Nat) : ∀ (k : Nat) (w p n : Int), 0 ≤ w → w ≤ 1000000 → 2 ≤ p → p ≤ 100 → w ≤ d → d < k → ∃ r, spec_BitesToEat.l0 k w p n = some r := by
  induction d with
  | zero =>
    intro k w p n h0 h1 h2 h3 hd hk
    obtain ⟨k, rfl⟩ : ∃ m, k = m + 1 := ⟨k - 1, by omega⟩
    exact ⟨_, by simp only [spec_BitesToEat.l0]; rw [if_neg (by omega)]⟩
  | succ d ih =>
    intro k w p n h0 h1 h2 h3 hd hk
    obtain ⟨k, rfl⟩ : ∃ m, k = m + 1 := ⟨k - 1, by omega⟩
    by_cases h : w > 0
    · obtain ⟨w', e, a, b⟩ := bite h h1 h2 h3
      obtain ⟨r, hr⟩ := ih k w' p (wrap64 (n + 1)) a (by omega) h2 h3 (by omega) (by omega)
      exact ⟨r, by simp only [spec_BitesToEat.l0]; rw [if_pos h, if_neg (by omega), e]; exact hr⟩
    · exact ⟨_, by simp only [spec_BitesToEat.l0]; rw [if_neg h]⟩
theorem FnExactBitesToEat : laws_FnExactBitesToEat.Pure := by
  intro a0 a1 _ _
  have h : ∃ k r, spec_BitesToEat.f k a0 a1 = some r := by
    unfold spec_BitesToEat.f
    simp only [skBite_eq, Option.bind_some, decide_eq_true_eq]
    by_cases g : (1 ≤ a0 ∧ a0 ≤ 1000000) ∧ 2 ≤ a1 ∧ a1 ≤ 100
    · obtain ⟨r, hr⟩ := ends a0.toNat (a0.toNat + 1) a0 a1 0 (by omega) (by omega) (by omega) (by omega) (by omega) (by omega)
      exact ⟨a0.toNat + 1, r, by rw [if_pos g]; exact hr⟩
    · exact ⟨0, _, by rw [if_neg g]⟩
  obtain ⟨k, r, hr⟩ := h
  refine ⟨k, ?_⟩
  unfold laws_FnExactBitesToEat.f
  rw [same, hr]
  simp

end Go.Proofs.Ytipgbhjioffbnaa.Pure
