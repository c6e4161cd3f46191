/- For all arguments the program's TestsByGroups returns what the reference's TestsByGroups returns. No condition. -/
import Derived.Test.YtipgbhjioffbnaaPFnExactTestsByGroupsx1
namespace Go.Proofs.Ytipgbhjioffbnaa.Pure
open Go.RowKit Go.Proofs.Ytipgbhjioffbnaa.PFnExactTestsByGroups Go.Proofs.YtipgbhjioffbnaaW.PrintWords Go.Proofs.YtipgbhjioffbnaaW.PrintLast
set_option linter.unusedVariables false
set_option linter.unusedSimpArgs false

theorem w64 {x : Int} (h0 : -9223372036854775808 ≤ x) (h1 : x ≤ 9223372036854775807) : wrap64 x = x := by
  unfold wrap64
  omega
theorem wf_i64 {x : Int} (h : (Lit.int .i64 x).wf = true) : -9223372036854775808 ≤ x ∧ x ≤ 9223372036854775807 := by
  have hmin : IntKind.i64.min = -9223372036854775808 := rfl
  have hmax : IntKind.i64.max = 9223372036854775807 := rfl
  simp only [Lit.wf, Bool.and_eq_true, decide_eq_true_eq] at h
  omega

theorem l1In_eq (a b c : Int) : spec_l1In.f a b c = some (decide (b ≤ a ∧ a ≤ c)) := by
  unfold spec_l1In.f
  by_cases h : b ≤ a
  · rw [if_pos (show a ≥ b from h)]; simp [h]
  · rw [if_neg (show ¬ a ≥ b from h)]; simp [h]
theorem within_eq (a b c : Int) : impl_within.f a b c = some (decide (b ≤ a ∧ a ≤ c)) := by
  unfold impl_within.f
  by_cases h : b ≤ a
  · rw [if_pos h]; simp [h]
  · rw [if_neg h]; simp [h]
theorem within_l1In (a b c : Int) : impl_within.f a b c = spec_l1In.f a b c := by rw [within_eq, l1In_eq]

theorem weighed_eq (a : Int) : impl_areWeighed.f a = spec_bxWeighed.f a := by
  unfold impl_areWeighed.f spec_bxWeighed.f
  rw [within_l1In]
theorem bxWeighed_eq (a : Int) : spec_bxWeighed.f a = some (decide (1 ≤ a ∧ a ≤ 1000)) := by
  unfold spec_bxWeighed.f
  rw [l1In_eq]; rfl
theorem byGroups_eq (a g : Int) : impl_byGroups.f a g = spec_bxWorst.f a g := by
  unfold impl_byGroups.f spec_bxWorst.f spec_l1Least.f mn
  by_cases h : g < a
  · rw [if_neg (show ¬ a < g by omega), if_pos h]; simp only [Option.bind_some]
  · by_cases h2 : a < g
    · rw [if_neg h, if_pos h2]; simp only [Option.bind_some]
    · obtain rfl : a = g := by omega
      simp only [Int.lt_irrefl, if_false, Option.bind_some]
theorem bxWorst_some {a g : Int} (h : 1 ≤ g) : ∃ r, spec_bxWorst.f a g = some r := by
  unfold spec_bxWorst.f spec_l1Least.f
  rw [if_neg (show ¬ g = 0 by omega)]
  by_cases h2 : g < a
  · rw [if_pos h2]; simp only [Option.bind_some]; split <;> exact ⟨_, rfl⟩
  · rw [if_neg h2]; simp only [Option.bind_some]; split <;> exact ⟨_, rfl⟩

theorem same (a b : Int) : impl_TestsByGroups.f a b = spec_TestsByGroups.f a b := by
  unfold impl_TestsByGroups.f spec_TestsByGroups.f
  simp only [weighed_eq, byGroups_eq]
theorem FnExactTestsByGroups : laws_FnExactTestsByGroups.Pure := by
  intro a0 a1 _ _
  have h : ∃ r, spec_TestsByGroups.f a0 a1 = some r := by
    unfold spec_TestsByGroups.f
    simp only [bxWeighed_eq, Option.bind_some, decide_eq_true_eq]
    by_cases g : 1 ≤ a0 ∧ a0 ≤ 1000
    · by_cases g2 : 1 ≤ a1 ∧ a1 ≤ 1000
      · obtain ⟨r, hr⟩ := bxWorst_some (a := a0) g2.1
        rw [if_pos g, if_pos g2, hr]; exact ⟨_, rfl⟩
      · rw [if_pos g, if_neg g2]; exact ⟨_, rfl⟩
    · rw [if_neg g]; exact ⟨_, rfl⟩
  obtain ⟨r, hr⟩ := h
  unfold laws_FnExactTestsByGroups.f
  rw [same, hr]
  simp

end Go.Proofs.Ytipgbhjioffbnaa.Pure
