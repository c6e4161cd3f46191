/- For all arguments the program's BestGroup returns what the reference's BestGroup returns. No condition. -/
import Derived.Test.YtipgbhjioffbnaaQ2
namespace Go.Proofs.Ytipgbhjioffbnaa.Pure
open Go.RowKit Go.Proofs.Ytipgbhjioffbnaa.Q Go.Proofs.YtipgbhjioffbnaaW.PrintWords Go.Proofs.YtipgbhjioffbnaaW.PrintLast
set_option linter.unusedVariables false
set_option linter.unusedSimpArgs false

theorem w64 {x : Int} (h0 : -9223372036854775808 ≤ x) (h1 : x ≤ 9223372036854775807) : wrap64 x = x := by
  unfold wrap64
  omega
theorem wf_i64 {x : Int} (h : (Lit.int .i64 x).wf = true) : -9223372036854775808 ≤ x ∧ x ≤ 9223372036854775807 := by
  have hmin : IntKind.i64.min = -9223372036854775808 := rfl
  have hmax : IntKind.i64.max = 9223372036854775807 := rfl
  simp only [Lit.wf, Bool.and_eq_true, decide_eq_true_eq] at h
  omega

theorem two {α β : Type} {g : Nat → Option α} {f : Nat → Option β} {a : α} {b : β} (h : Ev g a) (h' : Ev f b) : ∃ k, g k = some a ∧ f k = some b := by
  obtain ⟨K, h⟩ := h
  obtain ⟨K', h'⟩ := h'
  exact ⟨max K K', h _ (by omega), h' _ (by omega)⟩
theorem str_app (xs ys : List Int) : strOfNums (xs ++ ys) = strOfNums xs ++ strOfNums ys := by
  apply ByteArray.ext
  simp [strOfNums]
theorem str_nil : strOfNums [] = (⟨#[]⟩ : ByteArray) := rfl
theorem str_size (xs : List Int) : (strOfNums xs).size = xs.length := by simp [strOfNums, ByteArray.size]
theorem ba_nil_app (b : ByteArray) : (⟨#[]⟩ : ByteArray) ++ b = b := by
  apply ByteArray.ext
  simp
theorem ba_app_nil (b : ByteArray) : b ++ (⟨#[]⟩ : ByteArray) = b := by
  apply ByteArray.ext
  simp
theorem ba_assoc (a b c : ByteArray) : a ++ b ++ c = a ++ (b ++ c) := by
  apply ByteArray.ext
  simp
theorem ev_if {α : Type} {c : Prop} [Decidable c] {g f : Nat → Option α} {r : α} (hc : c) (h : Ev g r) : Ev (fun k => if c then g k else f k) r :=
  Ev.congr (fun k => if_pos hc) h
theorem ev_else {α : Type} {c : Prop} [Decidable c] {g f : Nat → Option α} {r : α} (hc : ¬ c) (h : Ev f r) : Ev (fun k => if c then g k else f k) r :=
  Ev.congr (fun k => if_neg hc) h
theorem ev_bind {α β : Type} {a : α} {o : Option α} {f : Nat → α → Option β} {r : β} (h : o = some a) (k : Ev (fun n => f n a) r) : Ev (fun n => o.bind (f n)) r :=
  Ev.congr (fun n => by rw [h]; rfl) k

theorem l1In_eq (a b c : Int) : spec_l1In.f a b c = some (decide (b ≤ a ∧ a ≤ c)) := by
  unfold spec_l1In.f
  by_cases h : b ≤ a
  · rw [if_pos (show a ≥ b from h)]; simp [h]
  · rw [if_neg (show ¬ a ≥ b from h)]; simp [h]
theorem within_eq (a b c : Int) : impl_within.f a b c = some (decide (b ≤ a ∧ a ≤ c)) := by
  unfold impl_within.f
  by_cases h : b ≤ a
  · rw [if_pos h]; simp [h]
  · rw [if_neg h]; simp [h]
theorem within_l1In (a b c : Int) : impl_within.f a b c = spec_l1In.f a b c := by rw [within_eq, l1In_eq]

theorem weighed_eq (a : Int) : impl_areWeighed.f a = spec_bxWeighed.f a := by
  unfold impl_areWeighed.f spec_bxWeighed.f
  rw [within_l1In]
theorem bxWeighed_eq (a : Int) : spec_bxWeighed.f a = some (decide (1 ≤ a ∧ a ≤ 1000)) := by
  unfold spec_bxWeighed.f
  rw [l1In_eq]; rfl
theorem byGroups_eq (a g : Int) : impl_byGroups.f a g = spec_bxWorst.f a g := by
  unfold impl_byGroups.f spec_bxWorst.f spec_l1Least.f mn
  by_cases h : g < a
  · rw [if_neg (show ¬ a < g by omega), if_pos h]; simp only [Option.bind_some]
  · by_cases h2 : a < g
    · rw [if_neg h, if_pos h2]; simp only [Option.bind_some]
    · obtain rfl : a = g := by omega
      simp only [Int.lt_irrefl, if_false, Option.bind_some]
theorem bxWorst_some {a g : Int} (h : 1 ≤ g) : ∃ r, spec_bxWorst.f a g = some r := by
  unfold spec_bxWorst.f spec_l1Least.f
  rw [if_neg (show ¬ g = 0 by omega)]
  by_cases h2 : g < a
  · rw [if_pos h2]; simp only [Option.bind_some]; split <;> exact ⟨_, rfl⟩
  · rw [if_neg h2]; simp only [Option.bind_some]; split <;> exact ⟨_, rfl⟩

theorem lst_add (tf : Int → Int) (a : Nat) : ∀ (n : Nat) (g b f : Int), lstLoop tf (a + n) g b f = lstLoop tf n (g + a) (lstLoop tf a g b f).1 (lstLoop tf a g b f).2 := by
  induction a with
  | zero => intro n g b f; rw [Nat.zero_add, show g + ((0 : Nat) : Int) = g by omega]; rfl
  | succ a ih =>
    intro n g b f
    rw [show a + 1 + n = (a + n) + 1 by omega]
    simp only [lstLoop]
    split
    · rw [ih, show g + 1 + (a : Int) = g + ((a + 1 : Nat) : Int) by omega]
    · rw [ih, show g + 1 + (a : Int) = g + ((a + 1 : Nat) : Int) by omega]
theorem lst_stay (tf : Int → Int) (n : Nat) : ∀ (g b f : Int), b ≠ 0 → (∀ i : Nat, i < n → f ≤ tf (g + i)) → lstLoop tf n g b f = (b, f) := by
  induction n with
  | zero => intro g b f _ _; rfl
  | succ n ih =>
    intro g b f hb h
    have h0 := h 0 (by omega)
    rw [show g + ((0 : Nat) : Int) = g by omega] at h0
    simp only [lstLoop]
    rw [if_neg (by omega)]
    exact ih (g + 1) b f hb (fun i hi => by have := h (i + 1) (by omega); rw [show g + 1 + (i : Int) = g + ((i + 1 : Nat) : Int) by omega]; exact this)
/-- Behind at least one round from 1 on: some size was found, and its tests are no more than those of the last round. -/
theorem lst_least (tf : Int → Int) (n : Nat) : ∀ (g b f : Int), 1 ≤ g → 0 ≤ b → (lstLoop tf (n + 1) g b f).1 ≠ 0 ∧ (lstLoop tf (n + 1) g b f).2 ≤ tf (g + n) := by
  induction n with
  | zero =>
    intro g b f hg hb
    simp only [lstLoop]
    rw [show g + ((0 : Nat) : Int) = g by omega]
    split
    · exact ⟨show g ≠ 0 by omega, Int.le_refl _⟩
    · rename_i h
      exact ⟨show b ≠ 0 by omega, show f ≤ tf g by omega⟩
  | succ n ih =>
    intro g b f hg hb
    rw [show lstLoop tf (n + 1 + 1) g b f = if b = 0 ∨ tf g < f then lstLoop tf (n + 1) (g + 1) g (tf g) else lstLoop tf (n + 1) (g + 1) b f from rfl, show g + ((n + 1 : Nat) : Int) = g + 1 + (n : Int) by omega]
    split
    · exact ih (g + 1) g (tf g) (by omega) (by omega)
    · exact ih (g + 1) b f (by omega) hb
theorem byG_tail {p g : Int} (hp : 1 ≤ p) (hp2 : p ≤ 1000) (hg : p ≤ g) (hg2 : g ≤ 100000) : byG p g = if 1 < p then 1 + p else 1 := by
  have e0 : mn g p = p := by unfold mn; split <;> omega
  have e1 : wrap64 (wrap64 (p + g) - 1) = p + g - 1 := by rw [w64 (x := p + g) (by omega) (by omega), w64 (by omega) (by omega)]
  have e2 : Int.tdiv (p + g - 1) g = 1 := by
    rw [Int.tdiv_eq_ediv_of_nonneg (by omega), show p + g - 1 = (p - 1) + 1 * g by omega, Int.add_mul_ediv_right _ _ (by omega), Int.ediv_eq_zero_of_lt (by omega) (by omega)]
    rfl
  unfold byG impl_byGroups.f
  rw [if_neg (show ¬ g = 0 by omega), e0, e1, e2, w64 (x := 1) (by omega) (by omega), w64 (x := 1 + p) (by omega) (by omega)]
  by_cases h : 1 < p
  · rw [if_pos (show p > 1 from h), if_pos h]; rfl
  · rw [if_neg (show ¬ p > 1 from h), if_neg h]; rfl
theorem best_l0 {p : Int} (hp : 1 ≤ p) (hp2 : p ≤ 1000) (d : Nat) : ∀ g b f : Int, 1 ≤ g → g + d = p + 1 → Ev (fun k => spec_BestGroup.l0 k p b f g) ((lstLoop (byG p) d g b f).1, (lstLoop (byG p) d g b f).2, true) := by
  induction d with
  | zero =>
    intro g b f hg hd
    refine Ev.step (fun k => ?_) (Ev.now _)
    simp only [spec_BestGroup.l0]
    rw [if_neg (show ¬ g ≤ p by omega)]
    rfl
  | succ d ih =>
    intro g b f hg hd
    have e : ∀ k, spec_BestGroup.l0 (k + 1) p b f g = if b = 0 ∨ byG p g < f then spec_BestGroup.l0 k p g (byG p g) (g + 1) else spec_BestGroup.l0 k p b f (g + 1) := by
      intro k
      simp only [spec_BestGroup.l0]
      rw [if_pos (show g ≤ p by omega), ← byGroups_eq, byG_some p g hg, w64 (x := g + 1) (by omega) (by omega)]
      simp only [Option.bind_some]
      by_cases c1 : b = 0
      · rw [if_pos c1, if_pos (.inl c1)]
      · by_cases c2 : byG p g < f
        · rw [if_neg c1, if_pos c2, if_pos (.inr c2)]
        · rw [if_neg c1, if_neg c2, if_neg (show ¬ (b = 0 ∨ byG p g < f) from fun h => h.elim c1 c2)]
    rw [show lstLoop (byG p) (d + 1) g b f = if b = 0 ∨ byG p g < f then lstLoop (byG p) d (g + 1) g (byG p g) else lstLoop (byG p) d (g + 1) b f from rfl]
    by_cases c : b = 0 ∨ byG p g < f
    · rw [if_pos c]
      exact Ev.step (fun k => by rw [e k, if_pos c]) (ih (g + 1) g (byG p g) (by omega) (by omega))
    · rw [if_neg c]
      exact Ev.step (fun k => by rw [e k, if_neg c]) (ih (g + 1) b f (by omega) (by omega))
theorem best_tail {p : Nat} (hp : 1 ≤ p) (hp2 : p ≤ 1000) : lstLoop (byG (p : Int)) 1000 1 0 0 = lstLoop (byG (p : Int)) p 1 0 0 := by
  obtain ⟨n, hn⟩ : ∃ n, n = 1000 - p := ⟨_, rfl⟩
  rw [show 1000 = p + n by omega, lst_add]
  obtain ⟨q, hq⟩ : ∃ q, p = q + 1 := ⟨p - 1, by omega⟩
  have hl := lst_least (byG (p : Int)) q 1 0 0 (by omega) (by omega)
  rw [← hq, show (1 : Int) + (q : Int) = (p : Int) by omega, byG_tail (by omega) (by omega) (by omega) (by omega)] at hl
  exact lst_stay _ n _ _ _ hl.1 (fun i hi => by rw [byG_tail (by omega) (by omega) (by omega) (by omega)]; exact hl.2)
theorem FnExactBestGroup : laws_FnExactBestGroup.Pure := by
  intro p _
  have key : ∃ q : Int × Int × Bool, Ev (fun k => spec_BestGroup.f k p) q ∧ impl_BestGroup.f p = some q := by
    unfold spec_BestGroup.f impl_BestGroup.f
    rw [weighed_eq, bxWeighed_eq]
    simp only [Option.bind_some, decide_eq_true_eq]
    by_cases g : 1 ≤ p ∧ p ≤ 1000
    · obtain ⟨n, rfl⟩ := Int.eq_ofNat_of_zero_le (show 0 ≤ p by omega)
      have h := best_l0 g.1 g.2 n 1 0 0 (by omega) (by omega)
      refine ⟨_, ev_if g h, ?_⟩
      rw [if_pos g, best_tail (by omega) (by omega)]
    · exact ⟨(0, 0, false), ev_else g (Ev.now _), by rw [if_neg g]⟩
  obtain ⟨q, hs, hi⟩ := key
  apply Ev.rounds (r := true)
  unfold laws_FnExactBestGroup.f
  refine Ev.bind hs (ev_bind hi (ev_if rfl (ev_if rfl (ev_else (by simp) (Ev.now _)))))

end Go.Proofs.Ytipgbhjioffbnaa.Pure
