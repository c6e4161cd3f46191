/- For all slabs and orders (at most 1048576 of each; for more the law answers true by its own guard) the program's IsStack returns what the reference's IsStack returns, and leaves its arguments as they were. No condition. -/
import Derived.Test.YtnppcpjkjepfeaaM8
namespace Go.Proofs.Ytnppcpjkjepfeaa.Pure
open Go.RowKit Go.Proofs.Ytnppcpjkjepfeaa.M Go.Proofs.YtnppcpjkjepfeaaW.PrintWords Go.Proofs.YtnppcpjkjepfeaaW.PrintLast
set_option linter.unusedVariables false
set_option linter.unusedSimpArgs false

theorem w64 {x : Int} (h0 : -9223372036854775808 ≤ x) (h1 : x ≤ 9223372036854775807) : wrap64 x = x := by
  unfold wrap64
  omega
theorem wf_i64 {x : Int} (h : (Lit.int .i64 x).wf = true) : -9223372036854775808 ≤ x ∧ x ≤ 9223372036854775807 := by
  have hmin : IntKind.i64.min = -9223372036854775808 := rfl
  have hmax : IntKind.i64.max = 9223372036854775807 := rfl
  simp only [Lit.wf, Bool.and_eq_true, decide_eq_true_eq] at h
  omega

theorem two {α β : Type} {g : Nat → Option α} {f : Nat → Option β} {a : α} {b : β} (h : Ev g a) (h' : Ev f b) : ∃ k, g k = some a ∧ f k = some b := by
  obtain ⟨K, h⟩ := h
  obtain ⟨K', h'⟩ := h'
  exact ⟨max K K', h _ (by omega), h' _ (by omega)⟩
theorem str_app (xs ys : List Int) : strOfNums (xs ++ ys) = strOfNums xs ++ strOfNums ys := by
  apply ByteArray.ext
  simp [strOfNums]
theorem str_nil : strOfNums [] = (⟨#[]⟩ : ByteArray) := rfl
theorem str_size (xs : List Int) : (strOfNums xs).size = xs.length := by simp [strOfNums, ByteArray.size]
theorem ba_nil_app (b : ByteArray) : (⟨#[]⟩ : ByteArray) ++ b = b := by
  apply ByteArray.ext
  simp
theorem ba_app_nil (b : ByteArray) : b ++ (⟨#[]⟩ : ByteArray) = b := by
  apply ByteArray.ext
  simp
theorem ba_assoc (a b c : ByteArray) : a ++ b ++ c = a ++ (b ++ c) := by
  apply ByteArray.ext
  simp
theorem ev_if {α : Type} {c : Prop} [Decidable c] {g f : Nat → Option α} {r : α} (hc : c) (h : Ev g r) : Ev (fun k => if c then g k else f k) r :=
  Ev.congr (fun k => if_pos hc) h
theorem ev_else {α : Type} {c : Prop} [Decidable c] {g f : Nat → Option α} {r : α} (hc : ¬ c) (h : Ev f r) : Ev (fun k => if c then g k else f k) r :=
  Ev.congr (fun k => if_neg hc) h
theorem ev_bind {α β : Type} {a : α} {o : Option α} {f : Nat → α → Option β} {r : β} (h : o = some a) (k : Ev (fun n => f n a) r) : Ev (fun n => o.bind (f n)) r :=
  Ev.congr (fun n => by rw [h]; rfl) k

theorem l1In_eq (a b c : Int) : spec_l1In.f a b c = some (decide (b ≤ a ∧ a ≤ c)) := by
  unfold spec_l1In.f
  by_cases h : b ≤ a
  · rw [if_pos (show a ≥ b from h)]; simp [h]
  · rw [if_neg (show ¬ a ≥ b from h)]; simp [h]
theorem within_eq (a b c : Int) : impl_within.f a b c = some (decide (b ≤ a ∧ a ≤ c)) := by
  unfold impl_within.f
  by_cases h : b ≤ a
  · rw [if_pos h]; simp [h]
  · rw [if_neg h]; simp [h]
theorem within_l1In (a b c : Int) : impl_within.f a b c = spec_l1In.f a b c := by rw [within_eq, l1In_eq]

theorem rd_nat (xs : List Int) (j : Nat) (h : j < xs.length) : rd xs (j : Int) = xs[j] := by
  simp [rd, List.getD_eq_getElem?_getD, List.getElem?_eq_getElem h]
theorem w64s {j : Nat} (h : j < 9223372036854775807) : wrap64 ((j : Int) + 1) = ((j + 1 : Nat) : Int) := by
  rw [w64 (by omega) (by omega)]; omega
theorem toIntS_l0 (xs : List Int) (hx : xs.length ≤ 1048576) (d : Nat) : ∀ (j : Nat) (ys : List Int), ys.length = xs.length → (∀ i (h : i < ys.length) (h' : i < xs.length), i < j → ys[i] = xs[i]) → j ≤ xs.length → xs.length - j = d →
    Ev (fun k => laws_toIntS.l0 k xs ys (j : Int)) xs := by
  induction d with
  | zero =>
    intro j ys hl hv hj hd
    have e : ys = xs := List.ext_getElem hl (fun i h h' => hv i h h' (by omega))
    subst e
    exact Ev.step (fun k => by simp only [laws_toIntS.l0]; rw [if_neg (by omega)]) (Ev.now _)
  | succ d ih =>
    intro j ys hl hv hj hd
    have hj' : j < xs.length := by omega
    refine Ev.step (f := fun k => laws_toIntS.l0 k xs (ys.set j xs[j]) ((j + 1 : Nat) : Int)) (fun k => ?_) (ih (j + 1) (ys.set j xs[j]) (by simp [hl]) ?_ (by omega) (by omega))
    · simp only [laws_toIntS.l0]
      rw [if_pos (by omega), if_pos (by omega), if_pos (by omega), rd_nat xs j hj', Int.toNat_natCast, w64s (by omega)]
    · intro i h h' hi
      rw [List.getElem_set]
      by_cases e : j = i
      · subst e; simp
      · rw [if_neg e]; exact hv i (by simpa using h) h' (by omega)
theorem toIntS_ev (xs : List Int) (hx : xs.length ≤ 1048576) : Ev (fun k => laws_toIntS.f k xs) xs := by
  unfold laws_toIntS.f
  refine ev_if (by omega) (ev_if (by omega) ?_)
  rw [Int.toNat_natCast]
  exact toIntS_l0 xs hx xs.length 0 _ (by simp) (fun i h h' hi => absurd hi (Nat.not_lt_zero _)) (by omega) (by omega)
theorem eqIntS_l0 (xs ys : List Int) (hl : xs.length = ys.length) (hx : xs.length ≤ 1099511627776) (d : Nat) : ∀ (j : Nat), (∀ i (h : i < xs.length) (h' : i < ys.length), i < j → xs[i] = ys[i]) → j ≤ xs.length → xs.length - j = d →
    Ev (fun k => laws_eqIntS.l0 k xs ys (j : Int)) (decide (xs = ys)) := by
  induction d with
  | zero =>
    intro j hv hj hd
    have e : xs = ys := List.ext_getElem hl (fun i h h' => hv i h h' (by omega))
    refine Ev.step (fun k => by simp only [laws_eqIntS.l0]; rw [if_neg (by omega)]) ?_
    simpa [e] using Ev.now true
  | succ d ih =>
    intro j hv hj hd
    have hj1 : j < xs.length := by omega
    have hj2 : j < ys.length := by omega
    by_cases e : xs[j] = ys[j]
    · refine Ev.step (f := fun k => laws_eqIntS.l0 k xs ys ((j + 1 : Nat) : Int)) (fun k => ?_) (ih (j + 1) ?_ (by omega) (by omega))
      · simp only [laws_eqIntS.l0]
        rw [if_pos (by omega), if_pos (by omega), if_pos (by omega), rd_nat xs j hj1, rd_nat ys j hj2, if_pos e, w64s (by omega)]
      · intro i h h' hi
        by_cases e2 : i = j
        · subst e2; exact e
        · exact hv i h h' (by omega)
    · have hne : decide (xs = ys) = false := by
        simp only [decide_eq_false_iff_not]
        rintro rfl
        exact e rfl
      rw [hne]
      refine Ev.step (fun k => ?_) (Ev.now false)
      simp only [laws_eqIntS.l0]
      rw [if_pos (by omega), if_pos (by omega), if_pos (by omega), rd_nat xs j hj1, rd_nat ys j hj2, if_neg e]
theorem eqIntS_ev (xs ys : List Int) (hx : xs.length ≤ 1099511627776) : Ev (fun k => laws_eqIntS.f k xs ys) (decide (xs = ys)) := by
  unfold laws_eqIntS.f
  by_cases h : xs.length = ys.length
  · refine ev_if (by omega) ?_
    exact eqIntS_l0 xs ys h hx xs.length 0 (fun i _ _ hi => absurd hi (Nat.not_lt_zero _)) (by omega) (by omega)
  · refine ev_else (by omega) ?_
    have hne : decide (xs = ys) = false := by
      simp only [decide_eq_false_iff_not]
      rintro rfl
      exact h rfl
    rw [hne]
    exact Ev.now false
theorem eqIntS_self (xs : List Int) (hx : xs.length ≤ 1099511627776) : Ev (fun k => laws_eqIntS.f k xs xs) true := by
  have := eqIntS_ev xs xs hx
  simpa using this

theorem l1All_l0 (lo hi : Int) (xs : List Int) (hx : xs.length ≤ 1099511627776) (d : Nat) : ∀ (j : Nat), (∀ i (h : i < xs.length), i < j → lo ≤ xs[i] ∧ xs[i] ≤ hi) → j ≤ xs.length → xs.length - j = d →
    Ev (fun k => spec_l1All.l0 k lo hi xs (xs.length : Int) (j : Int)) (xs.all fun x => decide (lo ≤ x ∧ x ≤ hi)) := by
  induction d with
  | zero =>
    intro j hv hj hd
    have e : (xs.all fun x => decide (lo ≤ x ∧ x ≤ hi)) = true := by
      rw [List.all_eq_true]
      intro x hm
      obtain ⟨i, hi2, rfl⟩ := List.getElem_of_mem hm
      exact decide_eq_true (hv i hi2 (by omega))
    rw [e]
    exact Ev.step (fun k => by simp only [spec_l1All.l0]; rw [if_neg (by omega)]) (Ev.now _)
  | succ d ih =>
    intro j hv hj hd
    have hj1 : j < xs.length := by omega
    by_cases e : lo ≤ xs[j] ∧ xs[j] ≤ hi
    · refine Ev.step (f := fun k => spec_l1All.l0 k lo hi xs (xs.length : Int) ((j + 1 : Nat) : Int)) (fun k => ?_) (ih (j + 1) ?_ (by omega) (by omega))
      · simp only [spec_l1All.l0]
        rw [if_pos (by omega), if_pos (by omega), if_pos (by omega), rd_nat xs j hj1, l1In_eq]
        simp only [Option.bind_some, decide_eq_true_eq]
        rw [if_pos e, w64s (by omega)]
      · intro i h hi2
        by_cases e2 : i = j
        · subst e2; exact e
        · exact hv i h (by omega)
    · have hne : (xs.all fun x => decide (lo ≤ x ∧ x ≤ hi)) = false := by
        rw [List.all_eq_false]
        exact ⟨xs[j], List.getElem_mem hj1, by simpa using e⟩
      rw [hne]
      refine Ev.step (fun k => ?_) (Ev.now false)
      simp only [spec_l1All.l0]
      rw [if_pos (by omega), if_pos (by omega), if_pos (by omega), rd_nat xs j hj1, l1In_eq]
      simp only [Option.bind_some, decide_eq_true_eq]
      rw [if_neg e]
theorem l1All_ev (lo hi : Int) (xs : List Int) (hx : xs.length ≤ 1099511627776) : Ev (fun k => spec_l1All.f k xs lo hi) (xs.all fun x => decide (lo ≤ x ∧ x ≤ hi)) :=
  l1All_l0 lo hi xs hx xs.length 0 (fun i _ hi => absurd hi (Nat.not_lt_zero _)) (by omega) (by omega)
theorem areWithin_eq (lo hi : Int) (xs : List Int) : impl_areWithin.f xs lo hi = some (xs.all fun x => decide (lo ≤ x ∧ x ≤ hi)) := by
  unfold impl_areWithin.f
  rw [List.not_any_eq_all_not]
  simp

def conv (x : S53) : S51 := ⟨x.f0, x.f1⟩
theorem rd53 (xs : List S53) (j : Nat) (h : j < xs.length) : rd_T53 xs (j : Int) = xs[j] := by
  simp [rd_T53, List.getD_eq_getElem?_getD, List.getElem?_eq_getElem h]
theorem rd51 (xs : List S51) (j : Nat) (h : j < xs.length) : rd_T51 xs (j : Int) = xs[j] := by
  simp [rd_T51, List.getD_eq_getElem?_getD, List.getElem?_eq_getElem h]
theorem toSlabS_l0 (xs : List S53) (hx : xs.length ≤ 1048576) (d : Nat) : ∀ (j : Nat) (ys : List S51), ys.length = xs.length → (∀ i (h : i < ys.length) (h' : i < xs.length), i < j → ys[i] = conv xs[i]) → j ≤ xs.length → xs.length - j = d →
    Ev (fun k => laws_toSlabS.l0 k xs ys (j : Int)) (xs.map conv) := by
  induction d with
  | zero =>
    intro j ys hl hv hj hd
    have e : ys = xs.map conv := List.ext_getElem (by rw [List.length_map]; exact hl) (fun i h h' => by rw [List.getElem_map]; exact hv i h (by simpa using h') (by have hh : i < xs.length := (by simpa using h'); omega))
    subst e
    exact Ev.step (fun k => by simp only [laws_toSlabS.l0]; rw [if_neg (by omega)]) (Ev.now _)
  | succ d ih =>
    intro j ys hl hv hj hd
    have hj' : j < xs.length := by omega
    refine Ev.step (f := fun k => laws_toSlabS.l0 k xs (ys.set j (conv xs[j])) ((j + 1 : Nat) : Int)) (fun k => ?_) (ih (j + 1) (ys.set j (conv xs[j])) (by simp [hl]) ?_ (by omega) (by omega))
    · simp only [laws_toSlabS.l0, laws_toSlab.f, Option.bind_some]
      rw [if_pos (by omega), if_pos (by omega), if_pos (by omega), rd53 xs j hj', Int.toNat_natCast, w64s (by omega)]
      rfl
    · intro i h h' hi
      rw [List.getElem_set]
      by_cases e : j = i
      · subst e; simp
      · rw [if_neg e]; exact hv i (by simpa using h) h' (by omega)
theorem toSlabS_ev (xs : List S53) (hx : xs.length ≤ 1048576) : Ev (fun k => laws_toSlabS.f k xs) (xs.map conv) := by
  unfold laws_toSlabS.f
  refine ev_if (by omega) (ev_if (by omega) ?_)
  rw [Int.toNat_natCast]
  exact toSlabS_l0 xs hx xs.length 0 _ (by simp) (fun i h h' hi => absurd hi (Nat.not_lt_zero _)) (by omega) (by omega)
theorem eqSlabS_l0 (xs : List S51) (hx : xs.length ≤ 1048576) (d : Nat) : ∀ (j : Nat), j ≤ xs.length → xs.length - j = d → Ev (fun k => laws_eqSlabS.l0 k xs xs (j : Int)) true := by
  induction d with
  | zero =>
    intro j hj hd
    exact Ev.step (fun k => by simp only [laws_eqSlabS.l0]; rw [if_neg (by omega)]) (Ev.now _)
  | succ d ih =>
    intro j hj hd
    refine Ev.step (fun k => ?_) (ih (j + 1) (by omega) (by omega))
    simp only [laws_eqSlabS.l0, laws_eqSlab.f, if_true, Option.bind_some]
    rw [if_pos (by omega), if_pos (by omega), if_pos (by omega), w64s (by omega)]
theorem eqSlabS_self (xs : List S51) (hx : xs.length ≤ 1048576) : Ev (fun k => laws_eqSlabS.f k xs xs) true := by
  unfold laws_eqSlabS.f
  exact ev_if rfl (eqSlabS_l0 xs hx xs.length 0 (by omega) (by omega))
/-- What both sides take for slabs. -/
def okS (xs : List S51) : Bool := decide (1 ≤ (xs.length : Int) ∧ (xs.length : Int) ≤ 7) && xs.all okSlab
theorem skSlabs_l0 (xs : List S51) (hx : xs.length ≤ 1048576) (d : Nat) : ∀ (j : Nat), (∀ i (h : i < xs.length), i < j → okSlab xs[i] = true) → j ≤ xs.length → xs.length - j = d →
    Ev (fun k => spec_skSlabs.l0 k xs (xs.length : Int) (j : Int)) (xs.all okSlab) := by
  induction d with
  | zero =>
    intro j hv hj hd
    have e : xs.all okSlab = true := by
      rw [List.all_eq_true]
      intro x hm
      obtain ⟨i, hi2, rfl⟩ := List.getElem_of_mem hm
      exact hv i hi2 (by omega)
    rw [e]
    exact Ev.step (fun k => by simp only [spec_skSlabs.l0]; rw [if_neg (by omega)]) (Ev.now _)
  | succ d ih =>
    intro j hv hj hd
    have hj1 : j < xs.length := by omega
    have hno : okSlab xs[j] = false → xs.all okSlab = false := fun e => by
      rw [List.all_eq_false]
      exact ⟨xs[j], List.getElem_mem hj1, by simp [e]⟩
    by_cases e0 : 1 ≤ xs[j].f0 ∧ xs[j].f0 ≤ 1000
    · by_cases e1 : 1 ≤ xs[j].f1 ∧ xs[j].f1 ≤ 1000
      · refine Ev.step (f := fun k => spec_skSlabs.l0 k xs (xs.length : Int) ((j + 1 : Nat) : Int)) (fun k => ?_) (ih (j + 1) ?_ (by omega) (by omega))
        · simp only [spec_skSlabs.l0]
          rw [if_pos (by omega), if_pos (by omega), if_pos (by omega), rd51 xs j hj1, l1In_eq, l1In_eq]
          simp only [Option.bind_some, decide_eq_true_eq]
          rw [if_pos e0, if_pos e1, w64s (by omega)]
        · intro i h hi2
          by_cases e2 : i = j
          · subst e2; simp [okSlab, e0, e1]
          · exact hv i h (by omega)
      · rw [hno (by simp only [okSlab, decide_eq_false e1, Bool.and_false])]
        refine Ev.step (fun k => ?_) (Ev.now false)
        simp only [spec_skSlabs.l0]
        rw [if_pos (by omega), if_pos (by omega), if_pos (by omega), rd51 xs j hj1, l1In_eq, l1In_eq]
        simp only [Option.bind_some, decide_eq_true_eq]
        rw [if_pos e0, if_neg e1]
    · rw [hno (by simp only [okSlab, decide_eq_false e0, Bool.false_and])]
      refine Ev.step (fun k => ?_) (Ev.now false)
      simp only [spec_skSlabs.l0]
      rw [if_pos (by omega), if_pos (by omega), if_pos (by omega), rd51 xs j hj1, l1In_eq, l1In_eq]
      simp only [Option.bind_some, decide_eq_true_eq]
      rw [if_neg e0]
theorem skSlabs_ev (xs : List S51) (hx : xs.length ≤ 1048576) : Ev (fun k => spec_skSlabs.f k xs) (okS xs) := by
  unfold spec_skSlabs.f okS
  rw [l1In_eq]
  simp only [Option.bind_some]
  by_cases g : 1 ≤ (xs.length : Int) ∧ (xs.length : Int) ≤ 7
  · simp only [g, and_self, decide_true, if_true, Bool.true_and]
    exact skSlabs_l0 xs hx xs.length 0 (fun i _ hi => absurd hi (Nat.not_lt_zero _)) (by omega) (by omega)
  · simp only [decide_eq_false g, Bool.false_eq_true, if_false, Bool.false_and]
    exact Ev.now _
theorem areSlabs_eq (xs : List S51) : impl_AreSlabs.f xs = some (okS xs) := by
  unfold impl_AreSlabs.f okS
  rw [List.not_any_eq_all_not]
  simp
theorem szSlabS_eq (xs : List S53) (b : Int) (hb : 0 ≤ b) (hb2 : b ≤ 1048576) (hx : xs.length ≤ maxLen) : laws_szSlabS.f xs b = some (if (xs.length : Int) > b then -1 else b - xs.length) := by
  unfold maxLen at hx
  unfold laws_szSlabS.f
  rw [w64 (by omega) (by omega)]
  by_cases h : (xs.length : Int) > b
  · rw [if_pos (by omega), if_pos h]
  · rw [if_neg (by omega), if_neg h]

theorem has_l0 (a : Int) (xs : List Int) (hx : xs.length ≤ 1048576) (d : Nat) : ∀ (j : Nat), (∀ i (h : i < xs.length), i < j → xs[i] ≠ a) → j ≤ xs.length → xs.length - j = d → Ev (fun k => spec_l1Has.l0 k a xs (xs.length : Int) (j : Int)) (decide (a ∈ xs)) := by
  induction d with
  | zero =>
    intro j hv hj hd
    have e : decide (a ∈ xs) = false := decide_eq_false (fun hm => by
      obtain ⟨i, hi, e⟩ := List.getElem_of_mem hm
      exact hv i hi (by omega) e)
    rw [e]
    exact Ev.step (fun k => by simp only [spec_l1Has.l0]; rw [if_neg (by omega)]) (Ev.now _)
  | succ d ih =>
    intro j hv hj hd
    have hj1 : j < xs.length := by omega
    by_cases e : xs[j] = a
    · rw [decide_eq_true (show a ∈ xs by rw [← e]; exact List.getElem_mem hj1)]
      refine Ev.step (fun k => ?_) (Ev.now true)
      simp only [spec_l1Has.l0]
      rw [if_pos (by omega), if_pos (by omega), if_pos (by omega), rd_nat xs j hj1, if_pos e]
    · refine Ev.step (fun k => ?_) (ih (j + 1) (fun i h hi => ?_) (by omega) (by omega))
      · simp only [spec_l1Has.l0]
        rw [if_pos (by omega), if_pos (by omega), if_pos (by omega), rd_nat xs j hj1, if_neg e, w64s (by omega)]
      · by_cases e2 : i = j
        · subst e2; exact e
        · exact hv i h (by omega)
theorem has_ev (a : Int) (xs : List Int) (hx : xs.length ≤ 1048576) : Ev (fun k => spec_l1Has.f k xs a) (decide (a ∈ xs)) :=
  has_l0 a xs hx xs.length 0 (fun i _ hi => absurd hi (Nat.not_lt_zero _)) (by omega) (by omega)

/-- From m places on, the last one first, with a above. -/
def isB (xs : List S51) (ys : List Int) : Nat → Int → Bool
  | 0, _ => true
  | m + 1, a => if stBad xs ys m a then false else isB xs ys m (wrap64 (a + (rd_T51 xs (rd ys (m : Int))).f0))
theorem stRun_isB (xs : List S51) (ys : List Int) (n : Nat) (k : Nat) : k ≤ n → (match stRun xs ys (bkTo n k) with | some a => isB xs ys (n - k) a | none => false) = isB xs ys n 0 := by
  induction k with
  | zero => intro _; rfl
  | succ k ih =>
    intro hk
    have h := ih (by omega)
    rw [bkTo, stRun_snoc]
    cases e : stRun xs ys (bkTo n k) with
    | none => rw [e] at h; exact h
    | some a =>
      rw [e] at h
      simp only [stStep, Option.bind_some]
      rw [show n - k = (n - (k + 1)) + 1 by omega] at h
      simp only [isB] at h
      split
      · rename_i a' ha
        split at ha
        · cases ha
        · rename_i hb
          rw [if_neg hb] at h
          rw [← h]
          have := Option.some.inj ha
          rw [this]
      · rename_i hn
        split at hn
        · rename_i hb
          rw [if_pos hb] at h
          exact h
        · cases hn
theorem stRun_some (xs : List S51) (ys : List Int) : (stRun xs ys (bkTo ys.length ys.length)).isSome = isB xs ys ys.length 0 := by
  have h := stRun_isB xs ys ys.length ys.length (Nat.le_refl _)
  rw [← h]
  cases stRun xs ys (bkTo ys.length ys.length) with
  | none => rfl
  | some a => rw [Nat.sub_self]; rfl
theorem skIs_l0 (xs : List S51) (ys : List Int) (hx : xs.length ≤ 1048576) (hy : ys.length ≤ 1048576) (hr : ∀ y ∈ ys, 0 ≤ y ∧ y < (xs.length : Int)) (m : Nat) : ∀ a : Int, m ≤ ys.length → Ev (fun k => spec_skIs.l0 k xs ys a ((m : Int) - 1)) (isB xs ys m a) := by
  induction m with
  | zero =>
    intro a _
    refine Ev.step (fun k => rfl) ?_
    simp only [spec_skIs.l0]
    exact ev_else (by omega) (Ev.now _)
  | succ m ih =>
    intro a hm
    have hl : m < ys.length := by omega
    have hin := hr ys[m] (List.getElem_mem hl)
    have hhas := has_ev (rd ys (m : Int)) (ys.take m) (by rw [List.length_take]; omega)
    rw [show ((m + 1 : Nat) : Int) - 1 = (m : Int) by omega]
    refine Ev.step (fun k => rfl) ?_
    simp only [spec_skIs.l0, Int.toNat_natCast, isB]
    refine ev_if (by omega) (ev_if (by omega) (ev_if (by omega) (ev_if (by omega) (Ev.bind hhas ?_))))
    by_cases c : rd ys (m : Int) ∈ ys.take m
    · have hb : stBad xs ys m a = true := by unfold stBad; rw [List.contains_iff_mem.mpr c]; rfl
      rw [if_pos hb]
      exact ev_if (by simpa using c) (Ev.now _)
    · refine ev_else (by simpa using c) ?_
      have hin2 : 0 ≤ rd ys (m : Int) ∧ rd ys (m : Int) < (xs.length : Int) := by rw [rd_nat ys m hl]; exact hin
      refine ev_if hin2.1 (ev_if hin2.2 ?_)
      have hcf : (ys.take m).contains (rd ys (m : Int)) = false := by
        rw [List.contains_eq_mem]; exact decide_eq_false c
      by_cases g : (rd_T51 xs (rd ys (m : Int))).f1 < a
      · have hb : stBad xs ys m a = true := by unfold stBad; rw [hcf, decide_eq_true (show a > (rd_T51 xs (rd ys (m : Int))).f1 from g)]; rfl
        rw [if_pos hb]
        exact ev_if g (Ev.now _)
      · have hb : ¬ stBad xs ys m a = true := by unfold stBad; rw [hcf, decide_eq_false (show ¬ a > (rd_T51 xs (rd ys (m : Int))).f1 from g)]; simp
        rw [if_neg hb]
        refine ev_else g ?_
        rw [w64 (x := (m : Int) - 1) (by omega) (by omega)]
        exact ih _ (by omega)
theorem isStack_both (xs : List S51) (ys : List Int) (hx0 : 0 < xs.length) (hx : xs.length ≤ 1048576) (hy : ys.length ≤ 1048576) : ∃ b, Ev (fun k => spec_skIs.f k xs ys) b ∧ impl_isStack.f xs ys = some b := by
  have e1 : wrap64 ((xs.length : Int) - 1) = (xs.length : Int) - 1 := w64 (by omega) (by omega)
  have hall := l1All_ev 0 ((xs.length : Int) - 1) ys (by omega)
  unfold spec_skIs.f impl_isStack.f
  rw [if_pos ⟨hy, hx⟩, e1, areWithin_eq]
  simp only [Option.bind_some]
  cases hb : (ys.all fun x => decide (0 ≤ x ∧ x ≤ (xs.length : Int) - 1)) with
  | false =>
    rw [hb] at hall
    exact ⟨false, Ev.bind hall (ev_else (by simp) (Ev.now _)), by rw [if_neg (by simp)]⟩
  | true =>
    rw [hb] at hall
    have hr : ∀ y ∈ ys, 0 ≤ y ∧ y < (xs.length : Int) := fun y hy => by
      have := List.all_eq_true.mp hb y hy
      rw [decide_eq_true_eq] at this
      omega
    refine ⟨isB xs ys ys.length 0, Ev.bind hall (ev_if rfl ?_), by rw [if_pos rfl, stRun_some]⟩
    rw [w64 (x := (ys.length : Int) - 1) (by omega) (by omega)]
    exact skIs_l0 xs ys hx hy hr ys.length 0 (Nat.le_refl _)
theorem okS_pos {xs : List S51} (h : okS xs = true) : 0 < xs.length ∧ xs.length ≤ 7 := by
  unfold okS at h
  simp only [Bool.and_eq_true, decide_eq_true_eq] at h
  omega

theorem FnExactIsStack : laws_FnExactIsStack.Pure := by
  intro xs ys hm _ _ _ _ _
  apply Ev.rounds (r := true)
  unfold laws_FnExactIsStack.f
  by_cases hy0 : (ys.length : Int) > 1048576
  · exact ev_if hy0 (Ev.now _)
  refine ev_else hy0 ?_
  have hy : ys.length ≤ 1048576 := by omega
  rw [szSlabS_eq xs _ (by omega) (by omega) hm]
  simp only [Option.bind_some]
  by_cases h : (xs.length : Int) > 1048576
  · exact ev_if (by rw [if_pos h]; omega) (Ev.now _)
  have hx : xs.length ≤ 1048576 := by omega
  have hz : (xs.map conv).length ≤ 1048576 := by rw [List.length_map]; exact hx
  have key : ∃ q, Ev (fun k => spec_IsStack.f k (xs.map conv) ys) q ∧ impl_IsStack.f (xs.map conv) ys = some q := by
    unfold spec_IsStack.f impl_IsStack.f
    rw [areSlabs_eq]
    simp only [Option.bind_some]
    cases hb : okS (xs.map conv) with
    | true =>
      obtain ⟨b, h1, h2⟩ := isStack_both (xs.map conv) ys (okS_pos hb).1 hz hy
      exact ⟨(b, true), Ev.bind (skSlabs_ev _ hz) (ev_if hb (Ev.bind h1 (Ev.now _))), by rw [if_pos rfl, h2]; rfl⟩
    | false => exact ⟨(false, false), Ev.bind (skSlabs_ev _ hz) (ev_else (by rw [hb]; simp) (Ev.now _)), by rw [if_neg (by simp)]⟩
  obtain ⟨q, hs, hi⟩ := key
  refine ev_else (by rw [if_neg h]; omega) (Ev.bind (toSlabS_ev xs hx) (Ev.bind (toIntS_ev ys hy) (Ev.bind hs (Ev.bind (toSlabS_ev xs hx) (Ev.bind (toIntS_ev ys hy) (ev_bind hi (ev_else (by simp) ?_)))))))
  refine Ev.step (fun k => rfl) ?_
  simp only [laws_FnExactIsStack.j0]
  exact ev_else (by simp) (Ev.bind (toSlabS_ev xs hx) (Ev.bind (eqSlabS_self _ hz) (ev_if rfl (Ev.bind (toIntS_ev ys hy) (Ev.bind (eqIntS_self ys (by omega)) (ev_if rfl (Ev.now _)))))))

end Go.Proofs.Ytnppcpjkjepfeaa.Pure
