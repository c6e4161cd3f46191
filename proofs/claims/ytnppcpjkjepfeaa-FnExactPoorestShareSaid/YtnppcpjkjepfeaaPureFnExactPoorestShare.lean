/- For all arguments (at most 1048576 numbers; for more the law answers true by its own guard) the program's PoorestShare returns what the reference's PoorestShare returns, and leaves its argument as it was. No condition. -/
import Derived.Test.YtnppcpjkjepfeaaV6
namespace Go.Proofs.Ytnppcpjkjepfeaa.Pure
open Go.RowKit Go.Proofs.Ytnppcpjkjepfeaa.V Go.Proofs.YtnppcpjkjepfeaaW.PrintWords Go.Proofs.YtnppcpjkjepfeaaW.PrintLast
set_option linter.unusedVariables false
set_option linter.unusedSimpArgs false

theorem w64 {x : Int} (h0 : -9223372036854775808 ≤ x) (h1 : x ≤ 9223372036854775807) : wrap64 x = x := by
  unfold wrap64
  omega
theorem wf_i64 {x : Int} (h : (Lit.int .i64 x).wf = true) : -9223372036854775808 ≤ x ∧ x ≤ 9223372036854775807 := by
  have hmin : IntKind.i64.min = -9223372036854775808 := rfl
  have hmax : IntKind.i64.max = 9223372036854775807 := rfl
  simp only [Lit.wf, Bool.and_eq_true, decide_eq_true_eq] at h
  omega

theorem two {α β : Type} {g : Nat → Option α} {f : Nat → Option β} {a : α} {b : β} (h : Ev g a) (h' : Ev f b) : ∃ k, g k = some a ∧ f k = some b := by
  obtain ⟨K, h⟩ := h
  obtain ⟨K', h'⟩ := h'
  exact ⟨max K K', h _ (by omega), h' _ (by omega)⟩
theorem str_app (xs ys : List Int) : strOfNums (xs ++ ys) = strOfNums xs ++ strOfNums ys := by
  apply ByteArray.ext
  simp [strOfNums]
theorem str_nil : strOfNums [] = (⟨#[]⟩ : ByteArray) := rfl
theorem str_size (xs : List Int) : (strOfNums xs).size = xs.length := by simp [strOfNums, ByteArray.size]
theorem ba_nil_app (b : ByteArray) : (⟨#[]⟩ : ByteArray) ++ b = b := by
  apply ByteArray.ext
  simp
theorem ba_app_nil (b : ByteArray) : b ++ (⟨#[]⟩ : ByteArray) = b := by
  apply ByteArray.ext
  simp
theorem ba_assoc (a b c : ByteArray) : a ++ b ++ c = a ++ (b ++ c) := by
  apply ByteArray.ext
  simp
theorem ev_if {α : Type} {c : Prop} [Decidable c] {g f : Nat → Option α} {r : α} (hc : c) (h : Ev g r) : Ev (fun k => if c then g k else f k) r :=
  Ev.congr (fun k => if_pos hc) h
theorem ev_else {α : Type} {c : Prop} [Decidable c] {g f : Nat → Option α} {r : α} (hc : ¬ c) (h : Ev f r) : Ev (fun k => if c then g k else f k) r :=
  Ev.congr (fun k => if_neg hc) h
theorem ev_bind {α β : Type} {a : α} {o : Option α} {f : Nat → α → Option β} {r : β} (h : o = some a) (k : Ev (fun n => f n a) r) : Ev (fun n => o.bind (f n)) r :=
  Ev.congr (fun n => by rw [h]; rfl) k

theorem l1In_eq (a b c : Int) : spec_l1In.f a b c = some (decide (b ≤ a ∧ a ≤ c)) := by
  unfold spec_l1In.f
  by_cases h : b ≤ a
  · rw [if_pos (show a ≥ b from h)]; simp [h]
  · rw [if_neg (show ¬ a ≥ b from h)]; simp [h]
theorem within_eq (a b c : Int) : impl_within.f a b c = some (decide (b ≤ a ∧ a ≤ c)) := by
  unfold impl_within.f
  by_cases h : b ≤ a
  · rw [if_pos h]; simp [h]
  · rw [if_neg h]; simp [h]
theorem within_l1In (a b c : Int) : impl_within.f a b c = spec_l1In.f a b c := by rw [within_eq, l1In_eq]

theorem rd_nat (xs : List Int) (j : Nat) (h : j < xs.length) : rd xs (j : Int) = xs[j] := by
  simp [rd, List.getD_eq_getElem?_getD, List.getElem?_eq_getElem h]
theorem w64s {j : Nat} (h : j < 9223372036854775807) : wrap64 ((j : Int) + 1) = ((j + 1 : Nat) : Int) := by
  rw [w64 (by omega) (by omega)]; omega
theorem toIntS_l0 (xs : List Int) (hx : xs.length ≤ 1048576) (d : Nat) : ∀ (j : Nat) (ys : List Int), ys.length = xs.length → (∀ i (h : i < ys.length) (h' : i < xs.length), i < j → ys[i] = xs[i]) → j ≤ xs.length → xs.length - j = d →
    Ev (fun k => laws_toIntS.l0 k xs ys (j : Int)) xs := by
  induction d with
  | zero =>
    intro j ys hl hv hj hd
    have e : ys = xs := List.ext_getElem hl (fun i h h' => hv i h h' (by omega))
    subst e
    exact Ev.step (fun k => by simp only [laws_toIntS.l0]; rw [if_neg (by omega)]) (Ev.now _)
  | succ d ih =>
    intro j ys hl hv hj hd
    have hj' : j < xs.length := by omega
    refine Ev.step (f := fun k => laws_toIntS.l0 k xs (ys.set j xs[j]) ((j + 1 : Nat) : Int)) (fun k => ?_) (ih (j + 1) (ys.set j xs[j]) (by simp [hl]) ?_ (by omega) (by omega))
    · simp only [laws_toIntS.l0]
      rw [if_pos (by omega), if_pos (by omega), if_pos (by omega), rd_nat xs j hj', Int.toNat_natCast, w64s (by omega)]
    · intro i h h' hi
      rw [List.getElem_set]
      by_cases e : j = i
      · subst e; simp
      · rw [if_neg e]; exact hv i (by simpa using h) h' (by omega)
theorem toIntS_ev (xs : List Int) (hx : xs.length ≤ 1048576) : Ev (fun k => laws_toIntS.f k xs) xs := by
  unfold laws_toIntS.f
  refine ev_if (by omega) (ev_if (by omega) ?_)
  rw [Int.toNat_natCast]
  exact toIntS_l0 xs hx xs.length 0 _ (by simp) (fun i h h' hi => absurd hi (Nat.not_lt_zero _)) (by omega) (by omega)
theorem eqIntS_l0 (xs ys : List Int) (hl : xs.length = ys.length) (hx : xs.length ≤ 1099511627776) (d : Nat) : ∀ (j : Nat), (∀ i (h : i < xs.length) (h' : i < ys.length), i < j → xs[i] = ys[i]) → j ≤ xs.length → xs.length - j = d →
    Ev (fun k => laws_eqIntS.l0 k xs ys (j : Int)) (decide (xs = ys)) := by
  induction d with
  | zero =>
    intro j hv hj hd
    have e : xs = ys := List.ext_getElem hl (fun i h h' => hv i h h' (by omega))
    refine Ev.step (fun k => by simp only [laws_eqIntS.l0]; rw [if_neg (by omega)]) ?_
    simpa [e] using Ev.now true
  | succ d ih =>
    intro j hv hj hd
    have hj1 : j < xs.length := by omega
    have hj2 : j < ys.length := by omega
    by_cases e : xs[j] = ys[j]
    · refine Ev.step (f := fun k => laws_eqIntS.l0 k xs ys ((j + 1 : Nat) : Int)) (fun k => ?_) (ih (j + 1) ?_ (by omega) (by omega))
      · simp only [laws_eqIntS.l0]
        rw [if_pos (by omega), if_pos (by omega), if_pos (by omega), rd_nat xs j hj1, rd_nat ys j hj2, if_pos e, w64s (by omega)]
      · intro i h h' hi
        by_cases e2 : i = j
        · subst e2; exact e
        · exact hv i h h' (by omega)
    · have hne : decide (xs = ys) = false := by
        simp only [decide_eq_false_iff_not]
        rintro rfl
        exact e rfl
      rw [hne]
      refine Ev.step (fun k => ?_) (Ev.now false)
      simp only [laws_eqIntS.l0]
      rw [if_pos (by omega), if_pos (by omega), if_pos (by omega), rd_nat xs j hj1, rd_nat ys j hj2, if_neg e]
theorem eqIntS_ev (xs ys : List Int) (hx : xs.length ≤ 1099511627776) : Ev (fun k => laws_eqIntS.f k xs ys) (decide (xs = ys)) := by
  unfold laws_eqIntS.f
  by_cases h : xs.length = ys.length
  · refine ev_if (by omega) ?_
    exact eqIntS_l0 xs ys h hx xs.length 0 (fun i _ _ hi => absurd hi (Nat.not_lt_zero _)) (by omega) (by omega)
  · refine ev_else (by omega) ?_
    have hne : decide (xs = ys) = false := by
      simp only [decide_eq_false_iff_not]
      rintro rfl
      exact h rfl
    rw [hne]
    exact Ev.now false
theorem eqIntS_self (xs : List Int) (hx : xs.length ≤ 1099511627776) : Ev (fun k => laws_eqIntS.f k xs xs) true := by
  have := eqIntS_ev xs xs hx
  simpa using this

theorem l1All_l0 (lo hi : Int) (xs : List Int) (hx : xs.length ≤ 1099511627776) (d : Nat) : ∀ (j : Nat), (∀ i (h : i < xs.length), i < j → lo ≤ xs[i] ∧ xs[i] ≤ hi) → j ≤ xs.length → xs.length - j = d →
    Ev (fun k => spec_l1All.l0 k lo hi xs (xs.length : Int) (j : Int)) (xs.all fun x => decide (lo ≤ x ∧ x ≤ hi)) := by
  induction d with
  | zero =>
    intro j hv hj hd
    have e : (xs.all fun x => decide (lo ≤ x ∧ x ≤ hi)) = true := by
      rw [List.all_eq_true]
      intro x hm
      obtain ⟨i, hi2, rfl⟩ := List.getElem_of_mem hm
      exact decide_eq_true (hv i hi2 (by omega))
    rw [e]
    exact Ev.step (fun k => by simp only [spec_l1All.l0]; rw [if_neg (by omega)]) (Ev.now _)
  | succ d ih =>
    intro j hv hj hd
    have hj1 : j < xs.length := by omega
    by_cases e : lo ≤ xs[j] ∧ xs[j] ≤ hi
    · refine Ev.step (f := fun k => spec_l1All.l0 k lo hi xs (xs.length : Int) ((j + 1 : Nat) : Int)) (fun k => ?_) (ih (j + 1) ?_ (by omega) (by omega))
      · simp only [spec_l1All.l0]
        rw [if_pos (by omega), if_pos (by omega), if_pos (by omega), rd_nat xs j hj1, l1In_eq]
        simp only [Option.bind_some, decide_eq_true_eq]
        rw [if_pos e, w64s (by omega)]
      · intro i h hi2
        by_cases e2 : i = j
        · subst e2; exact e
        · exact hv i h (by omega)
    · have hne : (xs.all fun x => decide (lo ≤ x ∧ x ≤ hi)) = false := by
        rw [List.all_eq_false]
        exact ⟨xs[j], List.getElem_mem hj1, by simpa using e⟩
      rw [hne]
      refine Ev.step (fun k => ?_) (Ev.now false)
      simp only [spec_l1All.l0]
      rw [if_pos (by omega), if_pos (by omega), if_pos (by omega), rd_nat xs j hj1, l1In_eq]
      simp only [Option.bind_some, decide_eq_true_eq]
      rw [if_neg e]
theorem l1All_ev (lo hi : Int) (xs : List Int) (hx : xs.length ≤ 1099511627776) : Ev (fun k => spec_l1All.f k xs lo hi) (xs.all fun x => decide (lo ≤ x ∧ x ≤ hi)) :=
  l1All_l0 lo hi xs hx xs.length 0 (fun i _ hi => absurd hi (Nat.not_lt_zero _)) (by omega) (by omega)
theorem areWithin_eq (lo hi : Int) (xs : List Int) : impl_areWithin.f xs lo hi = some (xs.all fun x => decide (lo ≤ x ∧ x ≤ hi)) := by
  unfold impl_areWithin.f
  rw [List.not_any_eq_all_not]
  simp

/-- What both sides take for weights. -/
def okW (xs : List Int) : Bool := decide (1 ≤ (xs.length : Int) ∧ (xs.length : Int) ≤ 12) && xs.all fun x => decide (1 ≤ x ∧ x ≤ 1000)
theorem skGood_ev (xs : List Int) (hx : xs.length ≤ 1099511627776) : Ev (fun k => spec_skGood.f k xs) (okW xs) := by
  unfold spec_skGood.f okW
  rw [l1In_eq]
  simp only [Option.bind_some]
  by_cases g : 1 ≤ (xs.length : Int) ∧ (xs.length : Int) ≤ 12
  · simp only [g, and_self, decide_true, if_true, Bool.true_and]
    exact Ev.bind (l1All_ev 1 1000 xs hx) (Ev.now _)
  · simp only [decide_eq_false g, Bool.false_eq_true, if_false, Bool.false_and]
    exact Ev.now _
theorem areWeights_eq (xs : List Int) : impl_AreWeights.f xs = some (okW xs) := by
  unfold impl_AreWeights.f okW
  rw [within_eq]
  simp only [Option.bind_some]
  by_cases g : 1 ≤ (xs.length : Int) ∧ (xs.length : Int) ≤ 12
  · simp only [g, and_self, decide_true, if_true, Bool.true_and]
    rw [areWithin_eq]; rfl
  · simp only [decide_eq_false g, Bool.false_eq_true, if_false, Bool.false_and]

theorem okW_bound {xs : List Int} (h : okW xs = true) : xs.length ≤ 12 ∧ ∀ x ∈ xs, 0 ≤ x ∧ x ≤ 1000 := by
  unfold okW at h
  rw [Bool.and_eq_true, decide_eq_true_eq, List.all_eq_true] at h
  refine ⟨by omega, fun x hx => ?_⟩
  have := h.2 x hx
  rw [decide_eq_true_eq] at this
  omega

/-! ### Reachable poorest shares, and that the order of the loads does not matter -/
/-- a is the poorest share behind some giving of the bars ws, from loads L on. -/
def Ach : List Int → List Int → Int → Prop
  | [], L, a => a = minL L
  | w :: ws, L, a => ∃ (k : Nat) (h : k < L.length), Ach ws (L.set k (L[k] + w)) a
theorem set_perm (L : List Int) (k : Nat) (h : k < L.length) (x : Int) : (L.set k x).Perm (x :: L.eraseIdx k) := by
  induction L generalizing k with
  | nil => simp at h
  | cons y r ih =>
    cases k with
    | zero => simp
    | succ k =>
      simp only [List.set_cons_succ, List.eraseIdx_cons_succ]
      exact ((ih k (by simpa using h)).cons y).trans (List.Perm.swap x y _)
theorem get_perm (L : List Int) (k : Nat) (h : k < L.length) : L.Perm (L[k] :: L.eraseIdx k) := by
  have := set_perm L k h L[k]
  rwa [List.set_getElem_self] at this
theorem child_perm {L L' : List Int} (hp : L.Perm L') {k j : Nat} (hk : k < L.length) (hj : j < L'.length) (he : L[k] = L'[j]) (w : Int) : (L.set k (L[k] + w)).Perm (L'.set j (L'[j] + w)) := by
  have h1 := (get_perm L k hk).symm.trans (hp.trans (get_perm L' j hj))
  rw [he] at h1
  have h2 := List.Perm.cons_inv h1
  rw [he]
  exact (set_perm L k hk _).trans ((h2.cons _).trans (set_perm L' j hj _).symm)
theorem minL_le {L : List Int} : ∀ x ∈ L, minL L ≤ x := by
  have key : ∀ (r : List Int) (m : Int), r.foldl mn m ≤ m ∧ ∀ x ∈ r, r.foldl mn m ≤ x := by
    intro r
    induction r with
    | nil => intro m; exact ⟨Int.le_refl _, fun x hx => by simp at hx⟩
    | cons y r ih =>
      intro m
      obtain ⟨h1, h2⟩ := ih (mn m y)
      have h3 : mn m y ≤ m ∧ mn m y ≤ y := by unfold mn; split <;> omega
      refine ⟨by simp only [List.foldl_cons]; omega, fun x hx => ?_⟩
      simp only [List.foldl_cons]
      rcases List.mem_cons.mp hx with rfl | hx
      · omega
      · exact h2 x hx
  match L with
  | [] => intro x hx; simp at hx
  | y :: r =>
    intro x hx
    obtain ⟨h1, h2⟩ := key r y
    show r.foldl mn y ≤ x
    rcases List.mem_cons.mp hx with rfl | hx
    · exact h1
    · exact h2 x hx
theorem minL_mem {L : List Int} (h : L ≠ []) : minL L ∈ L := by
  have key : ∀ (r : List Int) (m : Int), r.foldl mn m = m ∨ r.foldl mn m ∈ r := by
    intro r
    induction r with
    | nil => intro m; exact .inl rfl
    | cons y r ih =>
      intro m
      simp only [List.foldl_cons]
      have h3 : mn m y = m ∨ mn m y = y := by unfold mn; split <;> simp
      rcases ih (mn m y) with h | h
      · rcases h3 with e | e
        · exact .inl (h.trans e)
        · right; rw [h, e]; simp
      · exact .inr (List.mem_cons_of_mem _ h)
  match L, h with
  | y :: r, _ =>
    show r.foldl mn y ∈ y :: r
    rcases key r y with h | h
    · rw [h]; simp
    · exact List.mem_cons_of_mem _ h
theorem minL_perm {L L' : List Int} (hp : L.Perm L') : minL L = minL L' := by
  by_cases h : L = []
  · subst h; rw [List.Perm.nil_eq hp]
  · have h' : L' ≠ [] := fun e => h (by subst e; exact hp.eq_nil)
    have a := minL_le (L := L) _ (hp.mem_iff.mpr (minL_mem h'))
    have b := minL_le (L := L') _ (hp.mem_iff.mp (minL_mem h))
    omega
theorem ach_perm (ws : List Int) : ∀ {L L' : List Int} {a : Int}, L.Perm L' → Ach ws L a → Ach ws L' a := by
  induction ws with
  | nil => intro L L' a hp h; exact h.trans (minL_perm hp)
  | cons w ws ih =>
    intro L L' a hp ⟨k, hk, h⟩
    obtain ⟨j, hj, e⟩ := List.getElem_of_mem (hp.mem_iff.mp (List.getElem_mem hk))
    exact ⟨j, hj, ih (child_perm hp hk hj e.symm w) h⟩
/-- a is the best of the reachable ones. -/
def Best (ws L : List Int) (a : Int) : Prop := Ach ws L a ∧ ∀ b, Ach ws L b → b ≤ a
theorem best_perm {ws L L' : List Int} {a : Int} (hp : L.Perm L') (h : Best ws L a) : Best ws L' a := ⟨ach_perm ws hp h.1, fun b hb => h.2 b (ach_perm ws hp.symm hb)⟩
theorem best_one {ws L : List Int} {a b : Int} (h : Best ws L a) (h' : Best ws L b) : a = b := by have := h.2 b h'.1; have := h'.2 a h.1; omega
theorem rd_get (L : List Int) (k : Nat) (h : k < L.length) : rd L (k : Int) = L[k] := rd_nat L k h
/-- The loop takes the greatest of what it begins with and what the sharers give. -/
theorem psLoop_max (rec : Int → List Int → Int → Int) (wgt used : Int) (L : List Int) (c : Nat → Int) (m : Nat) : ∀ (k : Nat) (b : Int), (∀ j, k ≤ j → j < k + m → ∀ b, rec (mx used ((j : Int) + 1)) (L.set j (wrap64 (rd L (j : Int) + wgt))) b = mx b (c j)) →
    b ≤ psLoop rec wgt used L m (k : Int) b ∧ (∀ j, k ≤ j → j < k + m → c j ≤ psLoop rec wgt used L m (k : Int) b) ∧ (psLoop rec wgt used L m (k : Int) b = b ∨ ∃ j, k ≤ j ∧ j < k + m ∧ psLoop rec wgt used L m (k : Int) b = c j) := by
  induction m with
  | zero => intro k b _; exact ⟨Int.le_refl _, fun j h1 h2 => by omega, .inl rfl⟩
  | succ m ih =>
    intro k b h
    have h0 := h k (Nat.le_refl _) (by omega) b
    have e : psLoop rec wgt used L (m + 1) (k : Int) b = psLoop rec wgt used L m ((k + 1 : Nat) : Int) (mx b (c k)) := by
      simp only [psLoop]
      rw [Int.toNat_natCast, h0]
      rfl
    obtain ⟨h1, h2, h3⟩ := ih (k + 1) (mx b (c k)) (fun j j1 j2 => h j (by omega) (by omega))
    have hm : b ≤ mx b (c k) ∧ c k ≤ mx b (c k) ∧ (mx b (c k) = b ∨ mx b (c k) = c k) := by unfold mx; split <;> omega
    rw [e]
    refine ⟨by omega, fun j j1 j2 => ?_, ?_⟩
    · by_cases ej : j = k
      · subst ej; omega
      · exact h2 j (by omega) (by omega)
    · rcases h3 with h3 | ⟨j, j1, j2, h3⟩
      · rcases hm.2.2 with e2 | e2
        · exact .inl (h3.trans e2)
        · exact .inr ⟨k, Nat.le_refl _, by omega, h3.trans e2⟩
      · exact .inr ⟨j, by omega, by omega, h3⟩
theorem max_some (c : Nat → Int) (m : Nat) : ∃ j, j ≤ m ∧ ∀ i, i ≤ m → c i ≤ c j := by
  induction m with
  | zero => exact ⟨0, Nat.le_refl _, fun i hi => by rw [Nat.le_zero.mp hi]; exact Int.le_refl _⟩
  | succ m ih =>
    obtain ⟨j, h1, h2⟩ := ih
    by_cases h : c j ≤ c (m + 1)
    · refine ⟨m + 1, Nat.le_refl _, fun i hi => ?_⟩
      by_cases e : i = m + 1
      · subst e; exact Int.le_refl _
      · have := h2 i (by omega); omega
    · refine ⟨j, by omega, fun i hi => ?_⟩
      by_cases e : i = m + 1
      · subst e; omega
      · exact h2 i (by omega)
theorem rd_set (L : List Int) (k j : Nat) (x : Int) (hk : k < L.length) : rd (L.set k x) (j : Int) = if j = k then x else rd L (j : Int) := by
  by_cases e : j = k
  · subst e
    rw [if_pos rfl, rd_nat _ _ (by rw [List.length_set]; exact hk), List.getElem_set_self]
  · rw [if_neg e]
    by_cases hj : j < L.length
    · rw [rd_nat _ _ (by rw [List.length_set]; exact hj), rd_nat _ _ hj, List.getElem_set_ne (Ne.symm e)]
    · simp only [rd, Int.toNat_natCast]
      rw [List.getD_eq_getElem?_getD, List.getD_eq_getElem?_getD, List.getElem?_eq_none (by rw [List.length_set]; omega), List.getElem?_eq_none (by omega)]
theorem gv_best (xs : List Int) (n : Nat) (hn : 0 < n) (hx : xs.length ≤ 12) (hxs : ∀ x ∈ xs, 0 ≤ x ∧ x ≤ 1000) (d : Nat) : ∀ (u : Nat) (L : List Int), d ≤ xs.length → L.length = n → (∀ x ∈ L, 0 ≤ x ∧ x ≤ 13000 - 1000 * (d : Int)) → (∀ j : Nat, j < n → u ≤ j → rd L (j : Int) = 0) →
    ∃ a, Best (xs.drop (xs.length - d)) L a ∧ ∀ b, gv xs n d (u : Int) L b = mx b a := by
  induction d with
  | zero =>
    intro u L _ _ _ _
    refine ⟨minL L, ?_, fun b => rfl⟩
    rw [Nat.sub_zero, List.drop_length]
    exact ⟨rfl, fun b hb => Int.le_of_eq hb⟩
  | succ d ih =>
    intro u L hd hl hb hz
    have hlt : xs.length - (d + 1) < xs.length := by omega
    obtain ⟨w, hw⟩ : ∃ w, w = xs[xs.length - (d + 1)] := ⟨_, rfl⟩
    have hwb : 0 ≤ w ∧ w ≤ 1000 := by rw [hw]; exact hxs _ (List.getElem_mem hlt)
    have hdrop : xs.drop (xs.length - (d + 1)) = w :: xs.drop (xs.length - d) := by
      rw [List.drop_eq_getElem_cons hlt, hw, show xs.length - (d + 1) + 1 = xs.length - d by omega]
    have hrd : rd xs ((xs.length : Int) - (d + 1 : Nat)) = w := by
      rw [show (xs.length : Int) - (d + 1 : Nat) = ((xs.length - (d + 1) : Nat) : Int) by omega, rd_nat _ _ hlt, hw]
    obtain ⟨ws, hws⟩ : ∃ ws, ws = xs.drop (xs.length - d) := ⟨_, rfl⟩
    have hLb : ∀ j : Nat, j < n → 0 ≤ rd L (j : Int) ∧ rd L (j : Int) ≤ 13000 - 1000 * ((d + 1 : Nat) : Int) := by
      intro j hj
      rw [rd_nat L j (by omega)]
      exact hb _ (List.getElem_mem _)
    have hex : ∀ j : Nat, ∃ a : Int, j < n → Best ws (L.set j (rd L (j : Int) + w)) a ∧ ∀ b, gv xs n d (mx (u : Int) ((j : Int) + 1)) (L.set j (wrap64 (rd L (j : Int) + w))) b = mx b a := by
      intro j
      by_cases hj : j < n
      · have hjb := hLb j hj
        obtain ⟨a, h1, h2⟩ := ih (max u (j + 1)) (L.set j (rd L (j : Int) + w)) (by omega) (by rw [List.length_set]; exact hl) (by
          intro x hx
          rcases List.mem_or_eq_of_mem_set hx with hx | rfl
          · have := hb x hx; omega
          · omega) (by
          intro i hi hu
          rw [rd_set _ _ _ _ (by omega), if_neg (by omega)]
          exact hz i hi (by omega))
        refine ⟨a, fun _ => ⟨by rw [hws]; exact h1, fun b => ?_⟩⟩
        have e1 : mx (u : Int) ((j : Int) + 1) = ((max u (j + 1) : Nat) : Int) := by unfold mx; split <;> omega
        rw [e1, w64 (x := rd L (j : Int) + w) (by omega) (by omega)]
        exact h2 b
      · exact ⟨0, fun h => absurd h hj⟩
    obtain ⟨c, hc⟩ := Classical.axiomOfChoice hex
    obtain ⟨m, hm⟩ : ∃ m, m = (mn ((u : Int) + 1) (n : Int)).toNat := ⟨_, rfl⟩
    have hm1 : 1 ≤ m ∧ m ≤ n ∧ m ≤ u + 1 ∧ (m = n ∨ m = u + 1) := by rw [hm]; unfold mn; split <;> omega
    obtain ⟨j, j1, j2⟩ := max_some c (m - 1)
    have hset : ∀ k : Nat, (hk : k < L.length) → L.set k (L[k] + w) = L.set k (rd L (k : Int) + w) := fun k hk => by rw [rd_nat L k hk]
    refine ⟨c j, ⟨?_, ?_⟩, fun b => ?_⟩
    · rw [hdrop, ← hws]
      have hjl : j < L.length := by omega
      exact ⟨j, hjl, by rw [hset j hjl]; exact (hc j (by omega)).1.1⟩
    · intro b hA
      rw [hdrop, ← hws] at hA
      obtain ⟨k, hk, hA⟩ := hA
      by_cases hkm : k < m
      · rw [hset k hk] at hA
        exact Int.le_trans ((hc k (by omega)).1.2 b hA) (j2 k (by omega))
      · have hul : u < L.length := by omega
        have e0 : L[k] = L[u] := by
          rw [← rd_nat L k hk, ← rd_nat L u hul, hz k (by omega) (by omega), hz u (by omega) (Nat.le_refl _)]
        have hA2 := ach_perm ws (child_perm (List.Perm.refl L) hk hul e0 w) hA
        rw [hset u hul] at hA2
        exact Int.le_trans ((hc u (by omega)).1.2 b hA2) (j2 u (by omega))
    · obtain ⟨p1, p2, p3⟩ := psLoop_max (gv xs n d) w (u : Int) L c m 0 b (fun i _ i2 b => (hc i (by omega)).2 b)
      have e : gv xs n (d + 1) (u : Int) L b = psLoop (gv xs n d) w (u : Int) L m 0 b := by
        simp only [gv]
        rw [hrd, ← hm]
      rw [e]
      have q1 := p2 j (Nat.zero_le _) (by omega)
      have q2 : psLoop (gv xs n d) w (u : Int) L m 0 b = b ∨ psLoop (gv xs n d) w (u : Int) L m 0 b ≤ c j := by
        rcases p3 with p3 | ⟨i, _, i2, p3⟩
        · exact .inl p3
        · right
          have := j2 i (by omega)
          exact Int.le_trans (Int.le_of_eq p3) this
      simp only [Int.natCast_zero] at *
      unfold mx
      split <;> omega
theorem mn_comm (a b : Int) : mn a b = mn b a := by unfold mn; split <;> split <;> omega
theorem least_eq (a b : Int) : spec_l1Least.f a b = some (mn a b) := by
  rw [mn_comm]
  unfold spec_l1Least.f mn
  split <;> rfl
theorem most_eq (a b : Int) : spec_l1Most.f a b = some (mx a b) := by
  unfold spec_l1Most.f mx
  split <;> split <;> first | rfl | (congr 1; omega)
theorem own_eq (L : List Int) (h : L.length < 17592186044416) : spec_l1Own.f L = some L := by
  unfold spec_l1Own.f
  simp only [Option.bind_some, List.length_nil, List.nil_append]
  rw [if_pos (by omega)]
theorem has_l0 (a : Int) (xs : List Int) (hx : xs.length ≤ 1048576) (d : Nat) : ∀ (j : Nat), (∀ i (h : i < xs.length), i < j → xs[i] ≠ a) → j ≤ xs.length → xs.length - j = d → Ev (fun k => spec_l1Has.l0 k a xs (xs.length : Int) (j : Int)) (decide (a ∈ xs)) := by
  induction d with
  | zero =>
    intro j hv hj hd
    have e : decide (a ∈ xs) = false := decide_eq_false (fun hm => by
      obtain ⟨i, hi, e⟩ := List.getElem_of_mem hm
      exact hv i hi (by omega) e)
    rw [e]
    exact Ev.step (fun k => by simp only [spec_l1Has.l0]; rw [if_neg (by omega)]) (Ev.now _)
  | succ d ih =>
    intro j hv hj hd
    have hj1 : j < xs.length := by omega
    by_cases e : xs[j] = a
    · rw [decide_eq_true (show a ∈ xs by rw [← e]; exact List.getElem_mem hj1)]
      refine Ev.step (fun k => ?_) (Ev.now true)
      simp only [spec_l1Has.l0]
      rw [if_pos (by omega), if_pos (by omega), if_pos (by omega), rd_nat xs j hj1, if_pos e]
    · refine Ev.step (fun k => ?_) (ih (j + 1) (fun i h hi => ?_) (by omega) (by omega))
      · simp only [spec_l1Has.l0]
        rw [if_pos (by omega), if_pos (by omega), if_pos (by omega), rd_nat xs j hj1, if_neg e, w64s (by omega)]
      · by_cases e2 : i = j
        · subst e2; exact e
        · exact hv i h (by omega)
theorem has_ev (a : Int) (xs : List Int) (hx : xs.length ≤ 1048576) : Ev (fun k => spec_l1Has.f k xs a) (decide (a ∈ xs)) :=
  has_l0 a xs hx xs.length 0 (fun i _ hi => absurd hi (Nat.not_lt_zero _)) (by omega) (by omega)
theorem skMin_l0 (L : List Int) (hL : L.length ≤ 1048576) (d : Nat) : ∀ (j : Nat) (m : Int), L.length - j = d → j ≤ L.length → Ev (fun k => spec_skPoorest.l0 k m L (L.length : Int) (j : Int)) ((L.drop j).foldl mn m) := by
  induction d with
  | zero =>
    intro j m hd hj
    rw [List.drop_of_length_le (by omega)]
    exact Ev.step (fun k => by simp only [spec_skPoorest.l0]; rw [if_neg (by omega)]; rfl) (Ev.now _)
  | succ d ih =>
    intro j m hd hj
    have hj1 : j < L.length := by omega
    have h := ih (j + 1) (mn m L[j]) (by omega) (by omega)
    rw [List.drop_eq_getElem_cons hj1]
    refine Ev.step (fun k => ?_) h
    simp only [spec_skPoorest.l0]
    rw [if_pos (by omega), if_pos (by omega), if_pos (by omega), rd_nat L j hj1, least_eq, w64s (by omega)]
    rfl
theorem skMin_ev (L : List Int) (h0 : 0 < L.length) (hL : L.length ≤ 1048576) : Ev (fun k => spec_skPoorest.l0 k (rd L 0) L (L.length : Int) 0) (minL L) := by
  have h := skMin_l0 L hL L.length 0 (rd L 0) (by omega) (by omega)
  have e : (L.drop 0).foldl mn (rd L 0) = minL L := by
    match L, h0 with
    | y :: r, _ =>
      have hy : mn y y = y := by unfold mn; split <;> rfl
      show (y :: r).foldl mn y = r.foldl mn y
      rw [List.foldl_cons, hy]
  rw [e] at h
  exact h
theorem ach_nonneg (ws : List Int) : ∀ (L : List Int) (a : Int), (∀ w ∈ ws, 0 ≤ w) → (∀ x ∈ L, 0 ≤ x) → Ach ws L a → 0 ≤ a := by
  induction ws with
  | nil =>
    intro L a _ hL h
    rw [show a = minL L from h]
    by_cases e : L = []
    · subst e; exact Int.le_refl _
    · exact hL _ (minL_mem e)
  | cons w ws ih =>
    intro L a hw hL ⟨k, hk, h⟩
    refine ih _ a (fun y hy => hw y (List.mem_cons_of_mem _ hy)) (fun x hx => ?_) h
    rcases List.mem_or_eq_of_mem_set hx with hx | rfl
    · exact hL x hx
    · have := hL _ (List.getElem_mem hk); have := hw w (by simp); omega
theorem sk_loop (xs : List Int) (n i : Nat) (L : List Int) (w : Int) (c : Nat → Int) (hl : L.length = n) (hn : n ≤ 4) (hi : i < xs.length) (hi2 : i ≤ 1000) (hw : rd xs (i : Int) = w) (hb : ∀ k : Nat, k < n → -1000000 ≤ rd L (k : Int) + w ∧ rd L (k : Int) + w ≤ 1000000)
    (hc : ∀ k : Nat, k < n → Ev (fun r => spec_skPoorest.f r xs (L.set k (rd L (k : Int) + w)) ((i + 1 : Nat) : Int)) (c k)) (e : Nat) : ∀ (j : Nat) (b : Int), n - j = e → j ≤ n →
    ∃ R, Ev (fun r => spec_skPoorest.l1 r xs L (i : Int) b (n : Int) (j : Int)) R ∧ b ≤ R ∧ (∀ k : Nat, j ≤ k → k < n → (∃ k' : Nat, k' < k ∧ rd L (k' : Int) = rd L (k : Int)) ∨ c k ≤ R) ∧ (R = b ∨ ∃ k, j ≤ k ∧ k < n ∧ R = c k) := by
  induction e with
  | zero =>
    intro j b he hj
    exact ⟨b, Ev.step (fun k => by simp only [spec_skPoorest.l1]; rw [if_neg (by omega)]) (Ev.now _), Int.le_refl _, fun k k1 k2 => by omega, .inl rfl⟩
  | succ e ih =>
    intro j b he hj
    have hj1 : j < n := by omega
    have hhas := has_ev (rd L (j : Int)) (L.take j) (by rw [List.length_take]; omega)
    by_cases hd : rd L (j : Int) ∈ L.take j
    · obtain ⟨R, r1, r2, r3, r4⟩ := ih (j + 1) b (by omega) (by omega)
      obtain ⟨q, hq, eq⟩ := List.getElem_of_mem hd
      rw [List.length_take] at hq
      rw [List.getElem_take] at eq
      refine ⟨R, ?_, r2, fun k k1 k2 => ?_, ?_⟩
      · rw [decide_eq_true hd] at hhas
        refine Ev.step (fun k => by simp only [spec_skPoorest.l1, Int.toNat_natCast]; rw [w64s (by omega)]) (ev_if (show (j : Int) < (n : Int) by omega) (ev_if (by omega) (ev_if (show (j : Int) ≤ (L.length : Int) by omega) (ev_if (show (j : Int) < (L.length : Int) by omega) (Ev.bind hhas (ev_if rfl r1))))))
      · by_cases ek : k = j
        · subst ek
          exact .inl ⟨q, by omega, by rw [rd_nat L q (by omega)]; exact eq⟩
        · exact r3 k (by omega) k2
      · rcases r4 with r4 | ⟨k, k1, k2, r4⟩
        · exact .inl r4
        · exact .inr ⟨k, by omega, k2, r4⟩
    · have hm : b ≤ mx b (c j) ∧ c j ≤ mx b (c j) ∧ (mx b (c j) = b ∨ mx b (c j) = c j) := by unfold mx; split <;> omega
      obtain ⟨R, r1, r2, r3, r4⟩ := ih (j + 1) (mx b (c j)) (by omega) (by omega)
      have hbj := hb j hj1
      have hcj := hc j hj1
      refine ⟨R, ?_, by omega, fun k k1 k2 => ?_, ?_⟩
      · rw [decide_eq_false hd] at hhas
        refine Ev.step (fun k => rfl) ?_
        simp only [spec_skPoorest.l1, Int.toNat_natCast]
        exact ev_if (show (j : Int) < (n : Int) by omega) (ev_if (by omega) (ev_if (show (j : Int) ≤ (L.length : Int) by omega) (ev_if (show (j : Int) < (L.length : Int) by omega) (Ev.bind hhas (ev_else (by simp) (ev_bind (own_eq L (by omega)) (ev_if (show (j : Int) < (L.length : Int) by omega) (ev_if (show (0 : Int) ≤ (i : Int) by omega) (ev_if (show (i : Int) < (xs.length : Int) by omega) (Ev.bind (Ev.congr (fun k => by rw [hw, w64 (x := rd L (j : Int) + w) (by omega) (by omega), w64s (j := i) (by omega)]) hcj) (ev_bind (most_eq _ _) (Ev.congr (fun k => by rw [w64s (j := j) (by omega)]) r1))))))))))))
      · by_cases ek : k = j
        · subst ek; right; omega
        · exact r3 k (by omega) k2
      · rcases r4 with r4 | ⟨k, k1, k2, r4⟩
        · rcases hm.2.2 with e2 | e2
          · exact .inl (r4.trans e2)
          · exact .inr ⟨j, Nat.le_refl _, hj1, r4.trans e2⟩
        · exact .inr ⟨k, by omega, k2, r4⟩
theorem sk_best (xs : List Int) (n : Nat) (hn0 : 0 < n) (hn : n ≤ 4) (hx : xs.length ≤ 12) (hxs : ∀ x ∈ xs, 0 ≤ x ∧ x ≤ 1000) (d : Nat) : ∀ (i : Nat) (L : List Int), i + d = xs.length → L.length = n → (∀ x ∈ L, 0 ≤ x ∧ x ≤ 13000 - 1000 * (d : Int)) →
    ∃ a, Best (xs.drop i) L a ∧ Ev (fun r => spec_skPoorest.f r xs L (i : Int)) a := by
  induction d with
  | zero =>
    intro i L hi hl hb
    refine ⟨minL L, ?_, ?_⟩
    · rw [List.drop_of_length_le (by omega)]
      exact ⟨rfl, fun b hb => Int.le_of_eq hb⟩
    · exact Ev.step (f := fun k => spec_skPoorest.l0 k (rd L 0) L (L.length : Int) 0) (fun k => by simp only [spec_skPoorest.f]; rw [if_pos (by omega), if_pos (by omega)]) (skMin_ev L (by omega) (by omega))
  | succ d ih =>
    intro i L hi hl hb
    have hlt : i < xs.length := by omega
    obtain ⟨w, hw⟩ : ∃ w, w = xs[i] := ⟨_, rfl⟩
    have hwb : 0 ≤ w ∧ w ≤ 1000 := by rw [hw]; exact hxs _ (List.getElem_mem hlt)
    obtain ⟨ws, hws⟩ : ∃ ws, ws = xs.drop (i + 1) := ⟨_, rfl⟩
    have hdrop : xs.drop i = w :: ws := by rw [List.drop_eq_getElem_cons hlt, hw, hws]
    have hrd : rd xs (i : Int) = w := by rw [rd_nat _ _ hlt, hw]
    have hLb : ∀ j : Nat, j < n → 0 ≤ rd L (j : Int) ∧ rd L (j : Int) ≤ 13000 - 1000 * ((d + 1 : Nat) : Int) := by
      intro j hj
      rw [rd_nat L j (by omega)]
      exact hb _ (List.getElem_mem _)
    have hex : ∀ j : Nat, ∃ a : Int, j < n → Best ws (L.set j (rd L (j : Int) + w)) a ∧ Ev (fun r => spec_skPoorest.f r xs (L.set j (rd L (j : Int) + w)) ((i + 1 : Nat) : Int)) a := by
      intro j
      by_cases hj : j < n
      · have hjb := hLb j hj
        obtain ⟨a, h1, h2⟩ := ih (i + 1) (L.set j (rd L (j : Int) + w)) (by omega) (by rw [List.length_set]; exact hl) (by
          intro x hx
          rcases List.mem_or_eq_of_mem_set hx with hx | rfl
          · have := hb x hx; omega
          · omega)
        exact ⟨a, fun _ => ⟨by rw [hws]; exact h1, h2⟩⟩
      · exact ⟨0, fun h => absurd h hj⟩
    obtain ⟨c, hc⟩ := Classical.axiomOfChoice hex
    obtain ⟨R, r1, r2, r3, r4⟩ := sk_loop xs n i L w c hl hn hlt (by omega) hrd (fun k hk => by have := hLb k hk; omega) (fun k hk => (hc k hk).2) n 0 (-1) (by omega) (by omega)
    have hset : ∀ k : Nat, (hk : k < L.length) → L.set k (L[k] + w) = L.set k (rd L (k : Int) + w) := fun k hk => by rw [rd_nat L k hk]
    have hup : ∀ k : Nat, k < n → c k ≤ R := by
      intro k
      induction k using Nat.strongRecOn with
      | _ k ihk =>
        intro hk
        rcases r3 k (Nat.zero_le _) hk with ⟨k', h1, h2⟩ | h
        · have hk' : k' < L.length := by omega
          have hkl : k < L.length := by omega
          have e0 : L[k] = L[k'] := by rw [← rd_nat L k hkl, ← rd_nat L k' hk', h2]
          have hp := child_perm (List.Perm.refl L) hkl hk' e0 w
          rw [hset k hkl, hset k' hk'] at hp
          have e1 := best_one (best_perm hp (hc k hk).1) (hc k' (by omega)).1
          rw [e1]
          exact ihk k' h1 (by omega)
        · exact h
    have h0 : 0 ≤ c 0 := by
      have hb0 := hLb 0 hn0
      refine ach_nonneg ws _ _ (fun y hy => ?_) (fun x hx => ?_) (hc 0 hn0).1.1
      · have : y ∈ xs := by rw [hws] at hy; exact List.mem_of_mem_drop hy
        exact (hxs y this).1
      · rcases List.mem_or_eq_of_mem_set hx with hx | rfl
        · exact (hb x hx).1
        · omega
    have h00 := hup 0 hn0
    refine ⟨R, ⟨?_, ?_⟩, ?_⟩
    · rw [hdrop]
      rcases r4 with r4 | ⟨k, _, k2, r4⟩
      · omega
      · have hkl : k < L.length := by omega
        exact ⟨k, hkl, by rw [hset k hkl, r4]; exact (hc k k2).1.1⟩
    · intro b hA
      rw [hdrop] at hA
      obtain ⟨k, hk, hA⟩ := hA
      rw [hset k hk] at hA
      exact Int.le_trans ((hc k (by omega)).1.2 b hA) (hup k (by omega))
    · exact Ev.step (f := fun k => spec_skPoorest.l1 k xs L (i : Int) (-1) (n : Int) ((0 : Nat) : Int)) (fun k => by simp only [spec_skPoorest.f]; rw [if_neg (by omega), hl]; rfl) r1
theorem FnExactPoorestShare : laws_FnExactPoorestShare.Pure := by
  intro xs n _ _ _ _
  apply Ev.rounds (r := true)
  unfold laws_FnExactPoorestShare.f
  by_cases hx0 : (xs.length : Int) > 1048576
  · exact ev_if hx0 (Ev.now _)
  refine ev_else hx0 ?_
  have hx : xs.length ≤ 1048576 := by omega
  have key : ∃ q, Ev (fun k => spec_PoorestShare.f k xs n) q ∧ impl_PoorestShare.f xs n = some q := by
    unfold spec_PoorestShare.f impl_PoorestShare.f
    rw [areWeights_eq, if_pos ⟨hx, fun t ht ht2 => by
      rw [ht2] at ht
      exact okW_bound (Option.some.inj ht)⟩]
    simp only [Option.bind_some]
    cases hb : okW xs with
    | true =>
      obtain ⟨b1, b2⟩ := okW_bound hb
      by_cases hn : 1 ≤ n ∧ n ≤ 4
      · obtain ⟨m, rfl⟩ : ∃ m : Nat, n = (m : Int) := ⟨n.toNat, by omega⟩
        have hrep : ∀ x ∈ List.replicate m (0 : Int), x = 0 := fun x hx => (List.mem_replicate.mp hx).2
        obtain ⟨a, h1, h2⟩ := gv_best xs m (by omega) b1 b2 xs.length 0 (List.replicate m 0) (Nat.le_refl _) (by simp) (fun x hx => by rw [hrep x hx]; omega) (fun j hj _ => by rw [rd_nat _ _ (by simp; omega)]; simp)
        obtain ⟨a', g1, g2⟩ := sk_best xs m (by omega) (by omega) b1 b2 xs.length 0 (List.replicate m 0) (by omega) (by simp) (fun x hx => by rw [hrep x hx]; omega)
        rw [Nat.sub_self] at h1
        have e := best_one h1 g1
        subst e
        have hnn := ach_nonneg (xs.drop 0) _ _ (fun y hy => (b2 y (by simpa using hy)).1) (fun x hx => by rw [hrep x hx]; omega) h1.1
        refine ⟨(a, true), Ev.bind (skGood_ev xs (by omega)) (ev_if hb (ev_bind (l1In_eq _ _ _) (ev_if (by simp; omega) (ev_if (by omega) (ev_if (by omega) (Ev.bind (by rw [Int.toNat_natCast]; exact g2) (Ev.now _))))))), ?_⟩
        rw [if_pos rfl, if_pos hn, Int.toNat_natCast]
        have e2 : gv xs m xs.length 0 (List.replicate m 0) 0 = a := by
          have := h2 0
          simp only [Int.natCast_zero] at this
          rw [this]
          unfold mx
          split <;> omega
        rw [e2]
      · exact ⟨(0, false), Ev.bind (skGood_ev xs (by omega)) (ev_if hb (ev_bind (l1In_eq _ _ _) (ev_else (by simpa using hn) (Ev.now _)))), by rw [if_pos rfl, if_neg hn]⟩
    | false => exact ⟨(0, false), Ev.bind (skGood_ev xs (by omega)) (ev_else (by rw [hb]; simp) (Ev.now _)), by rw [if_neg (by simp)]⟩
  obtain ⟨q, hs, hi⟩ := key
  refine Ev.bind (toIntS_ev xs hx) (Ev.bind hs (Ev.bind (toIntS_ev xs hx) (ev_bind hi (ev_if rfl ?_))))
  exact Ev.step (fun k => by simp only [laws_FnExactPoorestShare.j0]; rfl) (ev_else (by simp) (Ev.bind (toIntS_ev xs hx) (Ev.bind (eqIntS_self xs (by omega)) (ev_if rfl (Ev.now _)))))

end Go.Proofs.Ytnppcpjkjepfeaa.Pure
