/- For all arguments of at most 1048576 numbers the program's FirstTakes returns what the reference's FirstTakes returns, and leaves its argument as it was; for longer ones the law answers true by its own guard. No condition. -/
import Derived.Test.YtnppcpjkjepfeaaU5
namespace Go.Proofs.Ytnppcpjkjepfeaa.Pure
open Go.RowKit Go.Proofs.Ytnppcpjkjepfeaa.U Go.Proofs.YtnppcpjkjepfeaaW.PrintWords Go.Proofs.YtnppcpjkjepfeaaW.PrintLast
set_option linter.unusedVariables false
set_option linter.unusedSimpArgs false

theorem w64 {x : Int} (h0 : -9223372036854775808 ≤ x) (h1 : x ≤ 9223372036854775807) : wrap64 x = x := by
  unfold wrap64
  omega
theorem wf_i64 {x : Int} (h : (Lit.int .i64 x).wf = true) : -9223372036854775808 ≤ x ∧ x ≤ 9223372036854775807 := by
  have hmin : IntKind.i64.min = -9223372036854775808 := rfl
  have hmax : IntKind.i64.max = 9223372036854775807 := rfl
  simp only [Lit.wf, Bool.and_eq_true, decide_eq_true_eq] at h
  omega

theorem two {α β : Type} {g : Nat → Option α} {f : Nat → Option β} {a : α} {b : β} (h : Ev g a) (h' : Ev f b) : ∃ k, g k = some a ∧ f k = some b := by
  obtain ⟨K, h⟩ := h
  obtain ⟨K', h'⟩ := h'
  exact ⟨max K K', h _ (by omega), h' _ (by omega)⟩
theorem str_app (xs ys : List Int) : strOfNums (xs ++ ys) = strOfNums xs ++ strOfNums ys := by
  apply ByteArray.ext
  simp [strOfNums]
theorem str_nil : strOfNums [] = (⟨#[]⟩ : ByteArray) := rfl
theorem str_size (xs : List Int) : (strOfNums xs).size = xs.length := by simp [strOfNums, ByteArray.size]
theorem ba_nil_app (b : ByteArray) : (⟨#[]⟩ : ByteArray) ++ b = b := by
  apply ByteArray.ext
  simp
theorem ba_app_nil (b : ByteArray) : b ++ (⟨#[]⟩ : ByteArray) = b := by
  apply ByteArray.ext
  simp
theorem ba_assoc (a b c : ByteArray) : a ++ b ++ c = a ++ (b ++ c) := by
  apply ByteArray.ext
  simp
theorem ev_if {α : Type} {c : Prop} [Decidable c] {g f : Nat → Option α} {r : α} (hc : c) (h : Ev g r) : Ev (fun k => if c then g k else f k) r :=
  Ev.congr (fun k => if_pos hc) h
theorem ev_else {α : Type} {c : Prop} [Decidable c] {g f : Nat → Option α} {r : α} (hc : ¬ c) (h : Ev f r) : Ev (fun k => if c then g k else f k) r :=
  Ev.congr (fun k => if_neg hc) h
theorem ev_bind {α β : Type} {a : α} {o : Option α} {f : Nat → α → Option β} {r : β} (h : o = some a) (k : Ev (fun n => f n a) r) : Ev (fun n => o.bind (f n)) r :=
  Ev.congr (fun n => by rw [h]; rfl) k

theorem l1In_eq (a b c : Int) : spec_l1In.f a b c = some (decide (b ≤ a ∧ a ≤ c)) := by
  unfold spec_l1In.f
  by_cases h : b ≤ a
  · rw [if_pos (show a ≥ b from h)]; simp [h]
  · rw [if_neg (show ¬ a ≥ b from h)]; simp [h]
theorem within_eq (a b c : Int) : impl_within.f a b c = some (decide (b ≤ a ∧ a ≤ c)) := by
  unfold impl_within.f
  by_cases h : b ≤ a
  · rw [if_pos h]; simp [h]
  · rw [if_neg h]; simp [h]
theorem within_l1In (a b c : Int) : impl_within.f a b c = spec_l1In.f a b c := by rw [within_eq, l1In_eq]

theorem rd_nat (xs : List Int) (j : Nat) (h : j < xs.length) : rd xs (j : Int) = xs[j] := by
  simp [rd, List.getD_eq_getElem?_getD, List.getElem?_eq_getElem h]
theorem w64s {j : Nat} (h : j < 9223372036854775807) : wrap64 ((j : Int) + 1) = ((j + 1 : Nat) : Int) := by
  rw [w64 (by omega) (by omega)]; omega
theorem toIntS_l0 (xs : List Int) (hx : xs.length ≤ 1048576) (d : Nat) : ∀ (j : Nat) (ys : List Int), ys.length = xs.length → (∀ i (h : i < ys.length) (h' : i < xs.length), i < j → ys[i] = xs[i]) → j ≤ xs.length → xs.length - j = d →
    Ev (fun k => laws_toIntS.l0 k xs ys (j : Int)) xs := by
  induction d with
  | zero =>
    intro j ys hl hv hj hd
    have e : ys = xs := List.ext_getElem hl (fun i h h' => hv i h h' (by omega))
    subst e
    exact Ev.step (fun k => by simp only [laws_toIntS.l0]; rw [if_neg (by omega)]) (Ev.now _)
  | succ d ih =>
    intro j ys hl hv hj hd
    have hj' : j < xs.length := by omega
    refine Ev.step (f := fun k => laws_toIntS.l0 k xs (ys.set j xs[j]) ((j + 1 : Nat) : Int)) (fun k => ?_) (ih (j + 1) (ys.set j xs[j]) (by simp [hl]) ?_ (by omega) (by omega))
    · simp only [laws_toIntS.l0]
      rw [if_pos (by omega), if_pos (by omega), if_pos (by omega), rd_nat xs j hj', Int.toNat_natCast, w64s (by omega)]
    · intro i h h' hi
      rw [List.getElem_set]
      by_cases e : j = i
      · subst e; simp
      · rw [if_neg e]; exact hv i (by simpa using h) h' (by omega)
theorem toIntS_ev (xs : List Int) (hx : xs.length ≤ 1048576) : Ev (fun k => laws_toIntS.f k xs) xs := by
  unfold laws_toIntS.f
  refine ev_if (by omega) (ev_if (by omega) ?_)
  rw [Int.toNat_natCast]
  exact toIntS_l0 xs hx xs.length 0 _ (by simp) (fun i h h' hi => absurd hi (Nat.not_lt_zero _)) (by omega) (by omega)
theorem eqIntS_l0 (xs ys : List Int) (hl : xs.length = ys.length) (hx : xs.length ≤ 1099511627776) (d : Nat) : ∀ (j : Nat), (∀ i (h : i < xs.length) (h' : i < ys.length), i < j → xs[i] = ys[i]) → j ≤ xs.length → xs.length - j = d →
    Ev (fun k => laws_eqIntS.l0 k xs ys (j : Int)) (decide (xs = ys)) := by
  induction d with
  | zero =>
    intro j hv hj hd
    have e : xs = ys := List.ext_getElem hl (fun i h h' => hv i h h' (by omega))
    refine Ev.step (fun k => by simp only [laws_eqIntS.l0]; rw [if_neg (by omega)]) ?_
    simpa [e] using Ev.now true
  | succ d ih =>
    intro j hv hj hd
    have hj1 : j < xs.length := by omega
    have hj2 : j < ys.length := by omega
    by_cases e : xs[j] = ys[j]
    · refine Ev.step (f := fun k => laws_eqIntS.l0 k xs ys ((j + 1 : Nat) : Int)) (fun k => ?_) (ih (j + 1) ?_ (by omega) (by omega))
      · simp only [laws_eqIntS.l0]
        rw [if_pos (by omega), if_pos (by omega), if_pos (by omega), rd_nat xs j hj1, rd_nat ys j hj2, if_pos e, w64s (by omega)]
      · intro i h h' hi
        by_cases e2 : i = j
        · subst e2; exact e
        · exact hv i h h' (by omega)
    · have hne : decide (xs = ys) = false := by
        simp only [decide_eq_false_iff_not]
        rintro rfl
        exact e rfl
      rw [hne]
      refine Ev.step (fun k => ?_) (Ev.now false)
      simp only [laws_eqIntS.l0]
      rw [if_pos (by omega), if_pos (by omega), if_pos (by omega), rd_nat xs j hj1, rd_nat ys j hj2, if_neg e]
theorem eqIntS_ev (xs ys : List Int) (hx : xs.length ≤ 1099511627776) : Ev (fun k => laws_eqIntS.f k xs ys) (decide (xs = ys)) := by
  unfold laws_eqIntS.f
  by_cases h : xs.length = ys.length
  · refine ev_if (by omega) ?_
    exact eqIntS_l0 xs ys h hx xs.length 0 (fun i _ _ hi => absurd hi (Nat.not_lt_zero _)) (by omega) (by omega)
  · refine ev_else (by omega) ?_
    have hne : decide (xs = ys) = false := by
      simp only [decide_eq_false_iff_not]
      rintro rfl
      exact h rfl
    rw [hne]
    exact Ev.now false
theorem eqIntS_self (xs : List Int) (hx : xs.length ≤ 1099511627776) : Ev (fun k => laws_eqIntS.f k xs xs) true := by
  have := eqIntS_ev xs xs hx
  simpa using this

theorem l1All_l0 (lo hi : Int) (xs : List Int) (hx : xs.length ≤ 1099511627776) (d : Nat) : ∀ (j : Nat), (∀ i (h : i < xs.length), i < j → lo ≤ xs[i] ∧ xs[i] ≤ hi) → j ≤ xs.length → xs.length - j = d →
    Ev (fun k => spec_l1All.l0 k lo hi xs (xs.length : Int) (j : Int)) (xs.all fun x => decide (lo ≤ x ∧ x ≤ hi)) := by
  induction d with
  | zero =>
    intro j hv hj hd
    have e : (xs.all fun x => decide (lo ≤ x ∧ x ≤ hi)) = true := by
      rw [List.all_eq_true]
      intro x hm
      obtain ⟨i, hi2, rfl⟩ := List.getElem_of_mem hm
      exact decide_eq_true (hv i hi2 (by omega))
    rw [e]
    exact Ev.step (fun k => by simp only [spec_l1All.l0]; rw [if_neg (by omega)]) (Ev.now _)
  | succ d ih =>
    intro j hv hj hd
    have hj1 : j < xs.length := by omega
    by_cases e : lo ≤ xs[j] ∧ xs[j] ≤ hi
    · refine Ev.step (f := fun k => spec_l1All.l0 k lo hi xs (xs.length : Int) ((j + 1 : Nat) : Int)) (fun k => ?_) (ih (j + 1) ?_ (by omega) (by omega))
      · simp only [spec_l1All.l0]
        rw [if_pos (by omega), if_pos (by omega), if_pos (by omega), rd_nat xs j hj1, l1In_eq]
        simp only [Option.bind_some, decide_eq_true_eq]
        rw [if_pos e, w64s (by omega)]
      · intro i h hi2
        by_cases e2 : i = j
        · subst e2; exact e
        · exact hv i h (by omega)
    · have hne : (xs.all fun x => decide (lo ≤ x ∧ x ≤ hi)) = false := by
        rw [List.all_eq_false]
        exact ⟨xs[j], List.getElem_mem hj1, by simpa using e⟩
      rw [hne]
      refine Ev.step (fun k => ?_) (Ev.now false)
      simp only [spec_l1All.l0]
      rw [if_pos (by omega), if_pos (by omega), if_pos (by omega), rd_nat xs j hj1, l1In_eq]
      simp only [Option.bind_some, decide_eq_true_eq]
      rw [if_neg e]
theorem l1All_ev (lo hi : Int) (xs : List Int) (hx : xs.length ≤ 1099511627776) : Ev (fun k => spec_l1All.f k xs lo hi) (xs.all fun x => decide (lo ≤ x ∧ x ≤ hi)) :=
  l1All_l0 lo hi xs hx xs.length 0 (fun i _ hi => absurd hi (Nat.not_lt_zero _)) (by omega) (by omega)
theorem areWithin_eq (lo hi : Int) (xs : List Int) : impl_areWithin.f xs lo hi = some (xs.all fun x => decide (lo ≤ x ∧ x ≤ hi)) := by
  unfold impl_areWithin.f
  rw [List.not_any_eq_all_not]
  simp

/-- What both sides take for weights. -/
def okW (xs : List Int) : Bool := decide (1 ≤ (xs.length : Int) ∧ (xs.length : Int) ≤ 12) && xs.all fun x => decide (1 ≤ x ∧ x ≤ 1000)
theorem skGood_ev (xs : List Int) (hx : xs.length ≤ 1099511627776) : Ev (fun k => spec_skGood.f k xs) (okW xs) := by
  unfold spec_skGood.f okW
  rw [l1In_eq]
  simp only [Option.bind_some]
  by_cases g : 1 ≤ (xs.length : Int) ∧ (xs.length : Int) ≤ 12
  · simp only [g, and_self, decide_true, if_true, Bool.true_and]
    exact Ev.bind (l1All_ev 1 1000 xs hx) (Ev.now _)
  · simp only [decide_eq_false g, Bool.false_eq_true, if_false, Bool.false_and]
    exact Ev.now _
theorem areWeights_eq (xs : List Int) : impl_AreWeights.f xs = some (okW xs) := by
  unfold impl_AreWeights.f okW
  rw [within_eq]
  simp only [Option.bind_some]
  by_cases g : 1 ≤ (xs.length : Int) ∧ (xs.length : Int) ≤ 12
  · simp only [g, and_self, decide_true, if_true, Bool.true_and]
    rw [areWithin_eq]; rfl
  · simp only [decide_eq_false g, Bool.false_eq_true, if_false, Bool.false_and]

theorem skSum_l0 (xs : List Int) (hx : xs.length ≤ 1048576) (d : Nat) : ∀ (j : Nat) (s : Int), xs.length - j = d → j ≤ xs.length → Ev (fun k => spec_skSum.l0 k s xs (xs.length : Int) (j : Int)) (sumW (xs.drop j) s) := by
  induction d with
  | zero =>
    intro j s hd hj
    refine Ev.step (fun k => ?_) (Ev.now _)
    simp only [spec_skSum.l0]
    rw [if_neg (by omega), List.drop_of_length_le (by omega)]
    rfl
  | succ d ih =>
    intro j s hd hj
    have hj1 : j < xs.length := by omega
    have h := ih (j + 1) (wrap64 (s + xs[j])) (by omega) (by omega)
    rw [List.drop_eq_getElem_cons hj1]
    refine Ev.step (fun k => ?_) h
    simp only [spec_skSum.l0]
    rw [if_pos (by omega), if_pos (by omega), if_pos (by omega), rd_nat xs j hj1, w64s (by omega)]
theorem skSum_ev (xs : List Int) (hx : xs.length ≤ 1048576) : Ev (fun k => spec_skSum.f k xs) (sumW xs 0) := skSum_l0 xs hx xs.length 0 0 (by omega) (by omega)
theorem sumW_bound (l : List Int) : ∀ s : Int, (∀ x ∈ l, 0 ≤ x ∧ x ≤ 1000) → 0 ≤ s → s + 1000 * l.length ≤ 1000000000 → s ≤ sumW l s ∧ sumW l s ≤ s + 1000 * l.length := by
  induction l with
  | nil => intro s _ h0 h1; simp only [sumW, List.length_nil] at *; omega
  | cons x r ih =>
    intro s hx h0 h1
    have hx0 := hx x (by simp)
    simp only [List.length_cons] at h1 ⊢
    have hw : wrap64 (s + x) = s + x := w64 (by omega) (by omega)
    have h := ih (s + x) (fun y hy => hx y (by simp [hy])) (by omega) (by omega)
    simp only [sumW]
    rw [hw]
    omega
theorem okW_bound {xs : List Int} (h : okW xs = true) : xs.length ≤ 12 ∧ ∀ x ∈ xs, 0 ≤ x ∧ x ≤ 1000 := by
  unfold okW at h
  rw [Bool.and_eq_true, decide_eq_true_eq, List.all_eq_true] at h
  refine ⟨by omega, fun x hx => ?_⟩
  have := h.2 x hx
  rw [decide_eq_true_eq] at this
  omega
theorem seg_bound {xs : List Int} (hl : xs.length ≤ 12) (hx : ∀ x ∈ xs, 0 ≤ x ∧ x ≤ 1000) (f t : Int) : 0 ≤ seg xs f t ∧ seg xs f t ≤ 12000 := by
  unfold seg
  have hn : ((xs.take t.toNat).drop f.toNat).length ≤ 12 := by rw [List.length_drop, List.length_take]; omega
  have h := sumW_bound ((xs.take t.toNat).drop f.toNat) 0 (fun x hm => hx x (List.mem_of_mem_take (List.mem_of_mem_drop hm))) (by omega) (by omega)
  omega
theorem tk_bound {xs : List Int} (hl : xs.length ≤ 12) (hx : ∀ x ∈ xs, 0 ≤ x ∧ x ≤ 1000) (d : Nat) : ∀ f : Int, d ≤ 100 → -(12000 * (d : Int)) ≤ (tk xs d f).1 ∧ (tk xs d f).1 ≤ 12000 * (d : Int) := by
  induction d with
  | zero => intro f _; simp only [tk]; omega
  | succ d ih =>
    intro f hd
    obtain ⟨a1, a2⟩ := ih (f + 1) (by omega)
    obtain ⟨b1, b2⟩ := ih f (by omega)
    obtain ⟨s1, s2⟩ := seg_bound hl hx f (f + (d + 1 : Nat))
    simp only [tk]
    rw [w64 (x := seg xs f (f + (d + 1 : Nat)) - (tk xs d (f + 1)).1) (by omega) (by omega), w64 (x := seg xs f (f + (d + 1 : Nat)) - (tk xs d f).1) (by omega) (by omega)]
    unfold mx
    split <;> omega
theorem tk_step {xs : List Int} (hl : xs.length ≤ 12) (hx : ∀ x ∈ xs, 0 ≤ x ∧ x ≤ 1000) (d : Nat) (hd : d ≤ 100) (f t : Int) (ht : t = f + (d + 1 : Nat)) :
    (tk xs (d + 1) f).1 = wrap64 (seg xs f t - mn (tk xs d f).1 (tk xs d (f + 1)).1) ∧ (tk xs (d + 1) f).2 = decide ((tk xs d (f + 1)).1 ≤ (tk xs d f).1) := by
  subst ht
  obtain ⟨a1, a2⟩ := tk_bound hl hx d (f + 1) hd
  obtain ⟨b1, b2⟩ := tk_bound hl hx d f hd
  obtain ⟨s1, s2⟩ := seg_bound hl hx f (f + (d + 1 : Nat))
  simp only [tk]
  rw [w64 (x := seg xs f (f + (d + 1 : Nat)) - (tk xs d (f + 1)).1) (by omega) (by omega), w64 (x := seg xs f (f + (d + 1 : Nat)) - (tk xs d f).1) (by omega) (by omega)]
  refine ⟨?_, ?_⟩
  · unfold mx mn
    split
    · split
      · omega
      · rw [w64 (by omega) (by omega)]
    · split
      · rw [w64 (by omega) (by omega)]
      · rw [w64 (by omega) (by omega)]; omega
  · by_cases h : (tk xs d (f + 1)).1 ≤ (tk xs d f).1
    · rw [decide_eq_true h, decide_eq_true (by omega)]
    · rw [decide_eq_false h, decide_eq_false (by omega)]
theorem least_eq (a b : Int) : spec_l1Least.f a b = some (mn b a) := by
  unfold spec_l1Least.f mn
  split <;> rfl
theorem skTake_ev {xs : List Int} (hl : xs.length ≤ 12) (hx : ∀ x ∈ xs, 0 ≤ x ∧ x ≤ 1000) (d : Nat) : ∀ f t : Int, 0 ≤ f → t = f + d → t ≤ xs.length → Ev (fun k => spec_skTake.f k xs f t) (tk xs d f).1 := by
  induction d with
  | zero =>
    intro f t h0 h1 h2
    refine Ev.step (fun k => ?_) (Ev.now _)
    simp only [spec_skTake.f, tk]
    rw [if_pos (by omega)]
  | succ d ih =>
    intro f t h0 h1 h2
    have e1 := ih (f + 1) t (by omega) (by omega) h2
    have e2 := ih f (t - 1) h0 (by omega) (by omega)
    rw [← w64 (x := f + 1) (by omega) (by omega)] at e1
    rw [← w64 (x := t - 1) (by omega) (by omega)] at e2
    have hs := skSum_ev ((xs.take t.toNat).drop f.toNat) (by rw [List.length_drop, List.length_take]; omega)
    rw [(tk_step hl hx d (by omega) f t h1).1]
    rw [w64 (x := f + 1) (by omega) (by omega)] at e1
    refine Ev.step (fun k => by simp only [spec_skTake.f]; rw [w64 (x := f + 1) (by omega) (by omega)]) (ev_else (show ¬ f = t by omega) (ev_if h0 (ev_if (show f ≤ t by omega) (ev_if h2 (Ev.bind hs (Ev.bind e1 (Ev.bind e2 (ev_bind (f := fun _ t117 => some (wrap64 (seg xs f t - t117))) (least_eq _ _) (Ev.now _)))))))))

theorem first_ev {xs : List Int} (hl : xs.length ≤ 12) (hx : ∀ x ∈ xs, 0 ≤ x ∧ x ≤ 1000) (n : Nat) : ∀ (f t : Int) (o : List Int), 0 ≤ f → f ≤ t → t ≤ xs.length → t - f < n → (o.length : Int) + (t - f) ≤ 1000 →
    Ev (fun k => spec_FirstTakes.l0 k xs (strOfNums o) f t) (strOfNums (ft xs n f t o), true) := by
  induction n with
  | zero => intro f t o h0 h1 h2 h3; omega
  | succ n ih =>
    intro f t o h0 h1 h2 h3 h4
    simp only [ft]
    by_cases c : f < t
    · rw [if_pos c]
      obtain ⟨d, hd⟩ : ∃ d : Nat, t - f = (d + 1 : Nat) := ⟨(t - f).toNat - 1, by omega⟩
      have e1 := skTake_ev hl hx d (f + 1) t (by omega) (by omega) h2
      have e2 := skTake_ev hl hx d f (t - 1) h0 (by omega) (by omega)
      have hs := (tk_step hl hx d (by omega) f t (by omega)).2
      have hsz : (strOfNums o).size + 1 ≤ 9223372036854775807 := by rw [str_size]; omega
      rw [hd, Int.toNat_natCast, hs]
      by_cases g : (tk xs d (f + 1)).1 ≤ (tk xs d f).1
      · rw [if_pos (decide_eq_true g)]
        have h := ih (f + 1) t (o ++ [102]) (by omega) (by omega) h2 (by omega) (by simp only [List.length_append, List.length_cons, List.length_nil]; omega)
        rw [str_app] at h
        refine Ev.step (fun k => by simp only [spec_FirstTakes.l0]; rw [w64 (x := f + 1) (by omega) (by omega), w64 (x := t - 1) (by omega) (by omega)]) (ev_if c (Ev.bind e1 (Ev.bind e2 (ev_if g (ev_if hsz h)))))
      · rw [if_neg (by simpa using g)]
        have h := ih f (t - 1) (o ++ [108]) h0 (by omega) (by omega) (by omega) (by simp only [List.length_append, List.length_cons, List.length_nil]; omega)
        rw [str_app] at h
        refine Ev.step (fun k => by simp only [spec_FirstTakes.l0]; rw [w64 (x := f + 1) (by omega) (by omega), w64 (x := t - 1) (by omega) (by omega)]) (ev_if c (Ev.bind e1 (Ev.bind e2 (ev_else g (ev_if hsz h)))))
    · rw [if_neg c]
      exact Ev.step (fun k => by simp only [spec_FirstTakes.l0]; rw [if_neg c]) (Ev.now _)
theorem FnExactFirstTakes : laws_FnExactFirstTakes.Pure := by
  intro xs _ _ _
  apply Ev.rounds (r := true)
  unfold laws_FnExactFirstTakes.f
  by_cases hx0 : (xs.length : Int) > 1048576
  · exact ev_if hx0 (Ev.now _)
  refine ev_else hx0 ?_
  have hx : xs.length ≤ 1048576 := by omega
  have key : ∃ q, Ev (fun k => spec_FirstTakes.f k xs) q ∧ impl_FirstTakes.f xs = some q := by
    unfold spec_FirstTakes.f impl_FirstTakes.f
    rw [areWeights_eq, if_pos hx]
    simp only [Option.bind_some]
    cases hb : okW xs with
    | true =>
      obtain ⟨b1, b2⟩ := okW_bound hb
      have h := first_ev b1 b2 (xs.length + 1) 0 (xs.length : Int) [] (by omega) (by omega) (by omega) (by omega) (by simp only [List.length_nil]; omega)
      exact ⟨_, Ev.bind (skGood_ev xs (by omega)) (ev_if hb h), by rw [if_pos rfl]⟩
    | false => exact ⟨(⟨#[]⟩, false), Ev.bind (skGood_ev xs (by omega)) (ev_else (by rw [hb]; simp) (Ev.now _)), by rw [if_neg (by simp)]⟩
  obtain ⟨q, hs, hi⟩ := key
  refine Ev.bind (toIntS_ev xs hx) (Ev.bind hs (Ev.bind (toIntS_ev xs hx) (ev_bind hi (ev_if rfl ?_))))
  exact Ev.step (fun k => by simp only [laws_FnExactFirstTakes.j0]; rfl) (ev_else (by simp) (Ev.bind (toIntS_ev xs hx) (Ev.bind (eqIntS_self xs (by omega)) (ev_if rfl (Ev.now _)))))

end Go.Proofs.Ytnppcpjkjepfeaa.Pure
