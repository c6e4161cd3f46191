/- For all arguments the program's LeftAfterBites returns what the reference's LeftAfterBites returns. No condition. -/
import Derived.Test.YtipgbhjioffbnaaPFnExactLeftAfterBitesx1
namespace Go.Proofs.Ytipgbhjioffbnaa.Pure
open Go.RowKit Go.Proofs.Ytipgbhjioffbnaa.PFnExactLeftAfterBites Go.Proofs.YtipgbhjioffbnaaW.PrintWords Go.Proofs.YtipgbhjioffbnaaW.PrintLast
set_option linter.unusedVariables false
set_option linter.unusedSimpArgs false

theorem w64 {x : Int} (h0 : -9223372036854775808 ≤ x) (h1 : x ≤ 9223372036854775807) : wrap64 x = x := by
  unfold wrap64
  omega
theorem wf_i64 {x : Int} (h : (Lit.int .i64 x).wf = true) : -9223372036854775808 ≤ x ∧ x ≤ 9223372036854775807 := by
  have hmin : IntKind.i64.min = -9223372036854775808 := rfl
  have hmax : IntKind.i64.max = 9223372036854775807 := rfl
  simp only [Lit.wf, Bool.and_eq_true, decide_eq_true_eq] at h
  omega

theorem l1In_eq (a b c : Int) : spec_l1In.f a b c = some (decide (b ≤ a ∧ a ≤ c)) := by
  unfold spec_l1In.f
  by_cases h : b ≤ a
  · rw [if_pos (show a ≥ b from h)]; simp [h]
  · rw [if_neg (show ¬ a ≥ b from h)]; simp [h]
theorem within_eq (a b c : Int) : impl_within.f a b c = some (decide (b ≤ a ∧ a ≤ c)) := by
  unfold impl_within.f
  by_cases h : b ≤ a
  · rw [if_pos h]; simp [h]
  · rw [if_neg h]; simp [h]
theorem within_l1In (a b c : Int) : impl_within.f a b c = spec_l1In.f a b c := by rw [within_eq, l1In_eq]

theorem skBite_eq (w p : Int) : spec_skBite.f w p = some (decide ((1 ≤ w ∧ w ≤ 1000000) ∧ 2 ≤ p ∧ p ≤ 100)) := by
  unfold spec_skBite.f
  simp only [l1In_eq, Option.bind_some]
  by_cases h : 1 ≤ w ∧ w ≤ 1000000
  · simp [h]
  · simp [h]
theorem isBitten_eq (w p : Int) : impl_isBitten.f w p = spec_skBite.f w p := by
  unfold impl_isBitten.f spec_skBite.f
  simp only [within_l1In]
theorem bite {w p : Int} (h0 : 0 < w) (h1 : w ≤ 1000000) (h2 : 2 ≤ p) (h3 : p ≤ 100) :
    ∃ w', wrap64 (w - (wrap64 (Int.tdiv (wrap64 ((wrap64 (w + p)) - 1)) p))) = w' ∧ 0 ≤ w' ∧ w' < w := by
  rw [w64 (x := w + p) (by omega) (by omega), w64 (x := w + p - 1) (by omega) (by omega), Int.tdiv_eq_ediv_of_nonneg (by omega)]
  have q1 : 1 ≤ (w + p - 1) / p := Int.le_ediv_of_mul_le (by omega) (by omega)
  have q2 : (w + p - 1) / p < w + 1 := by
    apply Int.ediv_lt_of_lt_mul (by omega)
    have e1 : (w + 1) * p = w * p + p := by rw [Int.add_mul, Int.one_mul]
    have e2 : w * 1 ≤ w * p := Int.mul_le_mul_of_nonneg_left (by omega) (by omega)
    omega
  generalize (w + p - 1) / p = q at *
  rw [w64 (x := q) (by omega) (by omega), w64 (x := w - q) (by omega) (by omega)]
  exact ⟨_, rfl, by omega, by omega⟩

theorem loops (k : Nat) : ∀ x0 x1 x2, impl_LeftAfterBites.l0 k x0 x1 x2 = spec_LeftAfterBites.l0 k x0 x1 x2 := by
  induction k with
  | zero => intros; simp only [impl_LeftAfterBites.l0, spec_LeftAfterBites.l0]
  | succ k ih => intro x0 x1 x2; simp only [impl_LeftAfterBites.l0, spec_LeftAfterBites.l0, ih]
theorem ways (k : Nat) : ∀ x0 x1 x2 b, impl_LeftAfterBites.j0 k x0 x1 x2 b = spec_LeftAfterBites.j0 k x0 x1 x2 b := by
  cases k with
  | zero => intros; simp only [impl_LeftAfterBites.j0, spec_LeftAfterBites.j0]
  | succ k => intro x0 x1 x2 b; simp only [impl_LeftAfterBites.j0, spec_LeftAfterBites.j0, loops]
theorem same (k : Nat) (a b c : Int) : impl_LeftAfterBites.f k a b c = spec_LeftAfterBites.f k a b c := by
  unfold impl_LeftAfterBites.f spec_LeftAfterBites.f
  simp only [isBitten_eq, within_l1In, ways]
theorem ends (d : Nat) : ∀ (k : Nat) (w p n : Int), 0 ≤ w → w ≤ 1000000 → 2 ≤ p → p ≤ 100 → n ≤ 1000000 → w ≤ d → d < k → ∃ r, spec_LeftAfterBites.l0 k w p n = some r := by
  induction d with
  | zero =>
    intro k w p n h0 h1 h2 h3 h4 hd hk
    obtain ⟨k, rfl⟩ : ∃ m, k = m + 1 := ⟨k - 1, by omega⟩
    simp only [spec_LeftAfterBites.l0]
    by_cases hn : n > 0
    · exact ⟨_, by rw [if_pos hn, if_neg (by omega)]⟩
    · exact ⟨_, by rw [if_neg hn]⟩
  | succ d ih =>
    intro k w p n h0 h1 h2 h3 h4 hd hk
    obtain ⟨k, rfl⟩ : ∃ m, k = m + 1 := ⟨k - 1, by omega⟩
    simp only [spec_LeftAfterBites.l0]
    by_cases hn : n > 0
    · by_cases h : w > 0
      · obtain ⟨w', e, a, b⟩ := bite h h1 h2 h3
        obtain ⟨r, hr⟩ := ih k w' p (n - 1) a (by omega) h2 h3 (by omega) (by omega) (by omega)
        exact ⟨r, by rw [if_pos hn, if_pos h, if_neg (by omega), e, w64 (x := n - 1) (by omega) (by omega)]; exact hr⟩
      · exact ⟨_, by rw [if_pos hn, if_neg h]⟩
    · exact ⟨_, by rw [if_neg hn]⟩
theorem FnExactLeftAfterBites : laws_FnExactLeftAfterBites.Pure := by
  intro a0 a1 a2 _ _ _
  have h : ∃ k r, spec_LeftAfterBites.f k a0 a1 a2 = some r := by
    unfold spec_LeftAfterBites.f
    simp only [skBite_eq, l1In_eq, Option.bind_some, decide_eq_true_eq]
    by_cases g : (1 ≤ a0 ∧ a0 ≤ 1000000) ∧ 2 ≤ a1 ∧ a1 ≤ 100
    · by_cases g2 : 0 ≤ a2 ∧ a2 ≤ 1000000
      · obtain ⟨r, hr⟩ := ends a0.toNat (a0.toNat + 1) a0 a1 a2 (by omega) (by omega) (by omega) (by omega) (by omega) (by omega) (by omega)
        exact ⟨a0.toNat + 1 + 1, r, by rw [if_pos g]; simp only [spec_LeftAfterBites.j0]; rw [if_neg (by simp [g2])]; exact hr⟩
      · exact ⟨1, _, by rw [if_pos g]; simp only [spec_LeftAfterBites.j0]; rw [if_pos (by simp; omega)]⟩
    · exact ⟨1, (0, false), by rw [if_neg g]; simp only [spec_LeftAfterBites.j0, if_true]⟩
  obtain ⟨k, r, hr⟩ := h
  refine ⟨k, ?_⟩
  unfold laws_FnExactLeftAfterBites.f
  rw [same, hr]
  simp

end Go.Proofs.Ytipgbhjioffbnaa.Pure
