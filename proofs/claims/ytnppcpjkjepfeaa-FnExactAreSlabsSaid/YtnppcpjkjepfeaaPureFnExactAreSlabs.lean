/- For all slabs (at most 1048576 of them; for more the law answers true by its own guard) the program's AreSlabs returns what the reference's AreSlabs returns, and leaves its argument as it was. No condition. -/
import Derived.Test.YtnppcpjkjepfeaaS4
namespace Go.Proofs.Ytnppcpjkjepfeaa.Pure
open Go.RowKit Go.Proofs.Ytnppcpjkjepfeaa.S Go.Proofs.YtnppcpjkjepfeaaW.PrintWords Go.Proofs.YtnppcpjkjepfeaaW.PrintLast
set_option linter.unusedVariables false
set_option linter.unusedSimpArgs false

theorem w64 {x : Int} (h0 : -9223372036854775808 ≤ x) (h1 : x ≤ 9223372036854775807) : wrap64 x = x := by
  unfold wrap64
  omega
theorem wf_i64 {x : Int} (h : (Lit.int .i64 x).wf = true) : -9223372036854775808 ≤ x ∧ x ≤ 9223372036854775807 := by
  have hmin : IntKind.i64.min = -9223372036854775808 := rfl
  have hmax : IntKind.i64.max = 9223372036854775807 := rfl
  simp only [Lit.wf, Bool.and_eq_true, decide_eq_true_eq] at h
  omega

theorem two {α β : Type} {g : Nat → Option α} {f : Nat → Option β} {a : α} {b : β} (h : Ev g a) (h' : Ev f b) : ∃ k, g k = some a ∧ f k = some b := by
  obtain ⟨K, h⟩ := h
  obtain ⟨K', h'⟩ := h'
  exact ⟨max K K', h _ (by omega), h' _ (by omega)⟩
theorem str_app (xs ys : List Int) : strOfNums (xs ++ ys) = strOfNums xs ++ strOfNums ys := by
  apply ByteArray.ext
  simp [strOfNums]
theorem str_nil : strOfNums [] = (⟨#[]⟩ : ByteArray) := rfl
theorem str_size (xs : List Int) : (strOfNums xs).size = xs.length := by simp [strOfNums, ByteArray.size]
theorem ba_nil_app (b : ByteArray) : (⟨#[]⟩ : ByteArray) ++ b = b := by
  apply ByteArray.ext
  simp
theorem ba_app_nil (b : ByteArray) : b ++ (⟨#[]⟩ : ByteArray) = b := by
  apply ByteArray.ext
  simp
theorem ba_assoc (a b c : ByteArray) : a ++ b ++ c = a ++ (b ++ c) := by
  apply ByteArray.ext
  simp
theorem ev_if {α : Type} {c : Prop} [Decidable c] {g f : Nat → Option α} {r : α} (hc : c) (h : Ev g r) : Ev (fun k => if c then g k else f k) r :=
  Ev.congr (fun k => if_pos hc) h
theorem ev_else {α : Type} {c : Prop} [Decidable c] {g f : Nat → Option α} {r : α} (hc : ¬ c) (h : Ev f r) : Ev (fun k => if c then g k else f k) r :=
  Ev.congr (fun k => if_neg hc) h
theorem ev_bind {α β : Type} {a : α} {o : Option α} {f : Nat → α → Option β} {r : β} (h : o = some a) (k : Ev (fun n => f n a) r) : Ev (fun n => o.bind (f n)) r :=
  Ev.congr (fun n => by rw [h]; rfl) k

theorem l1In_eq (a b c : Int) : spec_l1In.f a b c = some (decide (b ≤ a ∧ a ≤ c)) := by
  unfold spec_l1In.f
  by_cases h : b ≤ a
  · rw [if_pos (show a ≥ b from h)]; simp [h]
  · rw [if_neg (show ¬ a ≥ b from h)]; simp [h]
theorem within_eq (a b c : Int) : impl_within.f a b c = some (decide (b ≤ a ∧ a ≤ c)) := by
  unfold impl_within.f
  by_cases h : b ≤ a
  · rw [if_pos h]; simp [h]
  · rw [if_neg h]; simp [h]
theorem within_l1In (a b c : Int) : impl_within.f a b c = spec_l1In.f a b c := by rw [within_eq, l1In_eq]

theorem w64s {j : Nat} (h : j < 9223372036854775807) : wrap64 ((j : Int) + 1) = ((j + 1 : Nat) : Int) := by
  rw [w64 (by omega) (by omega)]; omega
def conv (x : S53) : S51 := ⟨x.f0, x.f1⟩
theorem rd53 (xs : List S53) (j : Nat) (h : j < xs.length) : rd_T53 xs (j : Int) = xs[j] := by
  simp [rd_T53, List.getD_eq_getElem?_getD, List.getElem?_eq_getElem h]
theorem rd51 (xs : List S51) (j : Nat) (h : j < xs.length) : rd_T51 xs (j : Int) = xs[j] := by
  simp [rd_T51, List.getD_eq_getElem?_getD, List.getElem?_eq_getElem h]
theorem toSlabS_l0 (xs : List S53) (hx : xs.length ≤ 1048576) (d : Nat) : ∀ (j : Nat) (ys : List S51), ys.length = xs.length → (∀ i (h : i < ys.length) (h' : i < xs.length), i < j → ys[i] = conv xs[i]) → j ≤ xs.length → xs.length - j = d →
    Ev (fun k => laws_toSlabS.l0 k xs ys (j : Int)) (xs.map conv) := by
  induction d with
  | zero =>
    intro j ys hl hv hj hd
    have e : ys = xs.map conv := List.ext_getElem (by rw [List.length_map]; exact hl) (fun i h h' => by rw [List.getElem_map]; exact hv i h (by simpa using h') (by have hh : i < xs.length := (by simpa using h'); omega))
    subst e
    exact Ev.step (fun k => by simp only [laws_toSlabS.l0]; rw [if_neg (by omega)]) (Ev.now _)
  | succ d ih =>
    intro j ys hl hv hj hd
    have hj' : j < xs.length := by omega
    refine Ev.step (f := fun k => laws_toSlabS.l0 k xs (ys.set j (conv xs[j])) ((j + 1 : Nat) : Int)) (fun k => ?_) (ih (j + 1) (ys.set j (conv xs[j])) (by simp [hl]) ?_ (by omega) (by omega))
    · simp only [laws_toSlabS.l0, laws_toSlab.f, Option.bind_some]
      rw [if_pos (by omega), if_pos (by omega), if_pos (by omega), rd53 xs j hj', Int.toNat_natCast, w64s (by omega)]
      rfl
    · intro i h h' hi
      rw [List.getElem_set]
      by_cases e : j = i
      · subst e; simp
      · rw [if_neg e]; exact hv i (by simpa using h) h' (by omega)
theorem toSlabS_ev (xs : List S53) (hx : xs.length ≤ 1048576) : Ev (fun k => laws_toSlabS.f k xs) (xs.map conv) := by
  unfold laws_toSlabS.f
  refine ev_if (by omega) (ev_if (by omega) ?_)
  rw [Int.toNat_natCast]
  exact toSlabS_l0 xs hx xs.length 0 _ (by simp) (fun i h h' hi => absurd hi (Nat.not_lt_zero _)) (by omega) (by omega)
theorem eqSlabS_l0 (xs : List S51) (hx : xs.length ≤ 1048576) (d : Nat) : ∀ (j : Nat), j ≤ xs.length → xs.length - j = d → Ev (fun k => laws_eqSlabS.l0 k xs xs (j : Int)) true := by
  induction d with
  | zero =>
    intro j hj hd
    exact Ev.step (fun k => by simp only [laws_eqSlabS.l0]; rw [if_neg (by omega)]) (Ev.now _)
  | succ d ih =>
    intro j hj hd
    refine Ev.step (fun k => ?_) (ih (j + 1) (by omega) (by omega))
    simp only [laws_eqSlabS.l0, laws_eqSlab.f, if_true, Option.bind_some]
    rw [if_pos (by omega), if_pos (by omega), if_pos (by omega), w64s (by omega)]
theorem eqSlabS_self (xs : List S51) (hx : xs.length ≤ 1048576) : Ev (fun k => laws_eqSlabS.f k xs xs) true := by
  unfold laws_eqSlabS.f
  exact ev_if rfl (eqSlabS_l0 xs hx xs.length 0 (by omega) (by omega))
/-- What both sides take for slabs. -/
def okS (xs : List S51) : Bool := decide (1 ≤ (xs.length : Int) ∧ (xs.length : Int) ≤ 7) && xs.all okSlab
theorem skSlabs_l0 (xs : List S51) (hx : xs.length ≤ 1048576) (d : Nat) : ∀ (j : Nat), (∀ i (h : i < xs.length), i < j → okSlab xs[i] = true) → j ≤ xs.length → xs.length - j = d →
    Ev (fun k => spec_skSlabs.l0 k xs (xs.length : Int) (j : Int)) (xs.all okSlab) := by
  induction d with
  | zero =>
    intro j hv hj hd
    have e : xs.all okSlab = true := by
      rw [List.all_eq_true]
      intro x hm
      obtain ⟨i, hi2, rfl⟩ := List.getElem_of_mem hm
      exact hv i hi2 (by omega)
    rw [e]
    exact Ev.step (fun k => by simp only [spec_skSlabs.l0]; rw [if_neg (by omega)]) (Ev.now _)
  | succ d ih =>
    intro j hv hj hd
    have hj1 : j < xs.length := by omega
    have hno : okSlab xs[j] = false → xs.all okSlab = false := fun e => by
      rw [List.all_eq_false]
      exact ⟨xs[j], List.getElem_mem hj1, by simp [e]⟩
    by_cases e0 : 1 ≤ xs[j].f0 ∧ xs[j].f0 ≤ 1000
    · by_cases e1 : 1 ≤ xs[j].f1 ∧ xs[j].f1 ≤ 1000
      · refine Ev.step (f := fun k => spec_skSlabs.l0 k xs (xs.length : Int) ((j + 1 : Nat) : Int)) (fun k => ?_) (ih (j + 1) ?_ (by omega) (by omega))
        · simp only [spec_skSlabs.l0]
          rw [if_pos (by omega), if_pos (by omega), if_pos (by omega), rd51 xs j hj1, l1In_eq, l1In_eq]
          simp only [Option.bind_some, decide_eq_true_eq]
          rw [if_pos e0, if_pos e1, w64s (by omega)]
        · intro i h hi2
          by_cases e2 : i = j
          · subst e2; simp [okSlab, e0, e1]
          · exact hv i h (by omega)
      · rw [hno (by simp only [okSlab, decide_eq_false e1, Bool.and_false])]
        refine Ev.step (fun k => ?_) (Ev.now false)
        simp only [spec_skSlabs.l0]
        rw [if_pos (by omega), if_pos (by omega), if_pos (by omega), rd51 xs j hj1, l1In_eq, l1In_eq]
        simp only [Option.bind_some, decide_eq_true_eq]
        rw [if_pos e0, if_neg e1]
    · rw [hno (by simp only [okSlab, decide_eq_false e0, Bool.false_and])]
      refine Ev.step (fun k => ?_) (Ev.now false)
      simp only [spec_skSlabs.l0]
      rw [if_pos (by omega), if_pos (by omega), if_pos (by omega), rd51 xs j hj1, l1In_eq, l1In_eq]
      simp only [Option.bind_some, decide_eq_true_eq]
      rw [if_neg e0]
theorem skSlabs_ev (xs : List S51) (hx : xs.length ≤ 1048576) : Ev (fun k => spec_skSlabs.f k xs) (okS xs) := by
  unfold spec_skSlabs.f okS
  rw [l1In_eq]
  simp only [Option.bind_some]
  by_cases g : 1 ≤ (xs.length : Int) ∧ (xs.length : Int) ≤ 7
  · simp only [g, and_self, decide_true, if_true, Bool.true_and]
    exact skSlabs_l0 xs hx xs.length 0 (fun i _ hi => absurd hi (Nat.not_lt_zero _)) (by omega) (by omega)
  · simp only [decide_eq_false g, Bool.false_eq_true, if_false, Bool.false_and]
    exact Ev.now _
theorem areSlabs_eq (xs : List S51) : impl_AreSlabs.f xs = some (okS xs) := by
  unfold impl_AreSlabs.f okS
  rw [List.not_any_eq_all_not]
  simp
theorem szSlabS_eq (xs : List S53) (b : Int) (hb : 0 ≤ b) (hb2 : b ≤ 1048576) (hx : xs.length ≤ maxLen) : laws_szSlabS.f xs b = some (if (xs.length : Int) > b then -1 else b - xs.length) := by
  unfold maxLen at hx
  unfold laws_szSlabS.f
  rw [w64 (by omega) (by omega)]
  by_cases h : (xs.length : Int) > b
  · rw [if_pos (by omega), if_pos h]
  · rw [if_neg (by omega), if_neg h]

theorem FnExactAreSlabs : laws_FnExactAreSlabs.Pure := by
  intro xs hm _ _
  apply Ev.rounds (r := true)
  unfold laws_FnExactAreSlabs.f
  rw [szSlabS_eq xs _ (by omega) (by omega) hm]
  simp only [Option.bind_some]
  by_cases h : (xs.length : Int) > 1048576
  · exact ev_if (by rw [if_pos h]; omega) (Ev.now _)
  · have hx : xs.length ≤ 1048576 := by omega
    have hy : (xs.map conv).length ≤ 1048576 := by rw [List.length_map]; exact hx
    refine ev_else (by rw [if_neg h]; omega) (Ev.bind (toSlabS_ev xs hx) (Ev.bind (a := okS (xs.map conv)) ?_ (Ev.bind (toSlabS_ev xs hx) (ev_bind (areSlabs_eq _) (ev_else (by simp) (Ev.bind (toSlabS_ev xs hx) (Ev.bind (eqSlabS_self _ hy) (ev_if rfl (Ev.now _)))))))))
    unfold spec_AreSlabs.f
    exact Ev.bind (skSlabs_ev _ hy) (Ev.now _)

end Go.Proofs.Ytnppcpjkjepfeaa.Pure
