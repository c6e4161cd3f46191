/- For all slabs (at most 1048576 of them; for more the law answers true by its own guard) the program's HeaviestStack returns what the reference's HeaviestStack returns, and leaves its argument as it was. No condition. -/
import Derived.Test.YtnppcpjkjepfeaaK11
namespace Go.Proofs.Ytnppcpjkjepfeaa.Pure
open Go.RowKit Go.Proofs.Ytnppcpjkjepfeaa.K Go.Proofs.YtnppcpjkjepfeaaW.PrintWords Go.Proofs.YtnppcpjkjepfeaaW.PrintLast
set_option linter.unusedVariables false
set_option linter.unusedSimpArgs false

theorem w64 {x : Int} (h0 : -9223372036854775808 ≤ x) (h1 : x ≤ 9223372036854775807) : wrap64 x = x := by
  unfold wrap64
  omega
theorem wf_i64 {x : Int} (h : (Lit.int .i64 x).wf = true) : -9223372036854775808 ≤ x ∧ x ≤ 9223372036854775807 := by
  have hmin : IntKind.i64.min = -9223372036854775808 := rfl
  have hmax : IntKind.i64.max = 9223372036854775807 := rfl
  simp only [Lit.wf, Bool.and_eq_true, decide_eq_true_eq] at h
  omega

theorem two {α β : Type} {g : Nat → Option α} {f : Nat → Option β} {a : α} {b : β} (h : Ev g a) (h' : Ev f b) : ∃ k, g k = some a ∧ f k = some b := by
  obtain ⟨K, h⟩ := h
  obtain ⟨K', h'⟩ := h'
  exact ⟨max K K', h _ (by omega), h' _ (by omega)⟩
theorem str_app (xs ys : List Int) : strOfNums (xs ++ ys) = strOfNums xs ++ strOfNums ys := by
  apply ByteArray.ext
  simp [strOfNums]
theorem str_nil : strOfNums [] = (⟨#[]⟩ : ByteArray) := rfl
theorem str_size (xs : List Int) : (strOfNums xs).size = xs.length := by simp [strOfNums, ByteArray.size]
theorem ba_nil_app (b : ByteArray) : (⟨#[]⟩ : ByteArray) ++ b = b := by
  apply ByteArray.ext
  simp
theorem ba_app_nil (b : ByteArray) : b ++ (⟨#[]⟩ : ByteArray) = b := by
  apply ByteArray.ext
  simp
theorem ba_assoc (a b c : ByteArray) : a ++ b ++ c = a ++ (b ++ c) := by
  apply ByteArray.ext
  simp
theorem ev_if {α : Type} {c : Prop} [Decidable c] {g f : Nat → Option α} {r : α} (hc : c) (h : Ev g r) : Ev (fun k => if c then g k else f k) r :=
  Ev.congr (fun k => if_pos hc) h
theorem ev_else {α : Type} {c : Prop} [Decidable c] {g f : Nat → Option α} {r : α} (hc : ¬ c) (h : Ev f r) : Ev (fun k => if c then g k else f k) r :=
  Ev.congr (fun k => if_neg hc) h
theorem ev_bind {α β : Type} {a : α} {o : Option α} {f : Nat → α → Option β} {r : β} (h : o = some a) (k : Ev (fun n => f n a) r) : Ev (fun n => o.bind (f n)) r :=
  Ev.congr (fun n => by rw [h]; rfl) k

theorem l1In_eq (a b c : Int) : spec_l1In.f a b c = some (decide (b ≤ a ∧ a ≤ c)) := by
  unfold spec_l1In.f
  by_cases h : b ≤ a
  · rw [if_pos (show a ≥ b from h)]; simp [h]
  · rw [if_neg (show ¬ a ≥ b from h)]; simp [h]
theorem within_eq (a b c : Int) : impl_within.f a b c = some (decide (b ≤ a ∧ a ≤ c)) := by
  unfold impl_within.f
  by_cases h : b ≤ a
  · rw [if_pos h]; simp [h]
  · rw [if_neg h]; simp [h]
theorem within_l1In (a b c : Int) : impl_within.f a b c = spec_l1In.f a b c := by rw [within_eq, l1In_eq]

theorem rd_nat (xs : List Int) (j : Nat) (h : j < xs.length) : rd xs (j : Int) = xs[j] := by
  simp [rd, List.getD_eq_getElem?_getD, List.getElem?_eq_getElem h]
theorem w64s {j : Nat} (h : j < 9223372036854775807) : wrap64 ((j : Int) + 1) = ((j + 1 : Nat) : Int) := by
  rw [w64 (by omega) (by omega)]; omega

def conv (x : S53) : S51 := ⟨x.f0, x.f1⟩
theorem rd53 (xs : List S53) (j : Nat) (h : j < xs.length) : rd_T53 xs (j : Int) = xs[j] := by
  simp [rd_T53, List.getD_eq_getElem?_getD, List.getElem?_eq_getElem h]
theorem rd51 (xs : List S51) (j : Nat) (h : j < xs.length) : rd_T51 xs (j : Int) = xs[j] := by
  simp [rd_T51, List.getD_eq_getElem?_getD, List.getElem?_eq_getElem h]
theorem toSlabS_l0 (xs : List S53) (hx : xs.length ≤ 1048576) (d : Nat) : ∀ (j : Nat) (ys : List S51), ys.length = xs.length → (∀ i (h : i < ys.length) (h' : i < xs.length), i < j → ys[i] = conv xs[i]) → j ≤ xs.length → xs.length - j = d →
    Ev (fun k => laws_toSlabS.l0 k xs ys (j : Int)) (xs.map conv) := by
  induction d with
  | zero =>
    intro j ys hl hv hj hd
    have e : ys = xs.map conv := List.ext_getElem (by rw [List.length_map]; exact hl) (fun i h h' => by rw [List.getElem_map]; exact hv i h (by simpa using h') (by have hh : i < xs.length := (by simpa using h'); omega))
    subst e
    exact Ev.step (fun k => by simp only [laws_toSlabS.l0]; rw [if_neg (by omega)]) (Ev.now _)
  | succ d ih =>
    intro j ys hl hv hj hd
    have hj' : j < xs.length := by omega
    refine Ev.step (f := fun k => laws_toSlabS.l0 k xs (ys.set j (conv xs[j])) ((j + 1 : Nat) : Int)) (fun k => ?_) (ih (j + 1) (ys.set j (conv xs[j])) (by simp [hl]) ?_ (by omega) (by omega))
    · simp only [laws_toSlabS.l0, laws_toSlab.f, Option.bind_some]
      rw [if_pos (by omega), if_pos (by omega), if_pos (by omega), rd53 xs j hj', Int.toNat_natCast, w64s (by omega)]
      rfl
    · intro i h h' hi
      rw [List.getElem_set]
      by_cases e : j = i
      · subst e; simp
      · rw [if_neg e]; exact hv i (by simpa using h) h' (by omega)
theorem toSlabS_ev (xs : List S53) (hx : xs.length ≤ 1048576) : Ev (fun k => laws_toSlabS.f k xs) (xs.map conv) := by
  unfold laws_toSlabS.f
  refine ev_if (by omega) (ev_if (by omega) ?_)
  rw [Int.toNat_natCast]
  exact toSlabS_l0 xs hx xs.length 0 _ (by simp) (fun i h h' hi => absurd hi (Nat.not_lt_zero _)) (by omega) (by omega)
theorem eqSlabS_l0 (xs : List S51) (hx : xs.length ≤ 1048576) (d : Nat) : ∀ (j : Nat), j ≤ xs.length → xs.length - j = d → Ev (fun k => laws_eqSlabS.l0 k xs xs (j : Int)) true := by
  induction d with
  | zero =>
    intro j hj hd
    exact Ev.step (fun k => by simp only [laws_eqSlabS.l0]; rw [if_neg (by omega)]) (Ev.now _)
  | succ d ih =>
    intro j hj hd
    refine Ev.step (fun k => ?_) (ih (j + 1) (by omega) (by omega))
    simp only [laws_eqSlabS.l0, laws_eqSlab.f, if_true, Option.bind_some]
    rw [if_pos (by omega), if_pos (by omega), if_pos (by omega), w64s (by omega)]
theorem eqSlabS_self (xs : List S51) (hx : xs.length ≤ 1048576) : Ev (fun k => laws_eqSlabS.f k xs xs) true := by
  unfold laws_eqSlabS.f
  exact ev_if rfl (eqSlabS_l0 xs hx xs.length 0 (by omega) (by omega))
/-- What both sides take for slabs. -/
def okS (xs : List S51) : Bool := decide (1 ≤ (xs.length : Int) ∧ (xs.length : Int) ≤ 7) && xs.all okSlab
theorem skSlabs_l0 (xs : List S51) (hx : xs.length ≤ 1048576) (d : Nat) : ∀ (j : Nat), (∀ i (h : i < xs.length), i < j → okSlab xs[i] = true) → j ≤ xs.length → xs.length - j = d →
    Ev (fun k => spec_skSlabs.l0 k xs (xs.length : Int) (j : Int)) (xs.all okSlab) := by
  induction d with
  | zero =>
    intro j hv hj hd
    have e : xs.all okSlab = true := by
      rw [List.all_eq_true]
      intro x hm
      obtain ⟨i, hi2, rfl⟩ := List.getElem_of_mem hm
      exact hv i hi2 (by omega)
    rw [e]
    exact Ev.step (fun k => by simp only [spec_skSlabs.l0]; rw [if_neg (by omega)]) (Ev.now _)
  | succ d ih =>
    intro j hv hj hd
    have hj1 : j < xs.length := by omega
    have hno : okSlab xs[j] = false → xs.all okSlab = false := fun e => by
      rw [List.all_eq_false]
      exact ⟨xs[j], List.getElem_mem hj1, by simp [e]⟩
    by_cases e0 : 1 ≤ xs[j].f0 ∧ xs[j].f0 ≤ 1000
    · by_cases e1 : 1 ≤ xs[j].f1 ∧ xs[j].f1 ≤ 1000
      · refine Ev.step (f := fun k => spec_skSlabs.l0 k xs (xs.length : Int) ((j + 1 : Nat) : Int)) (fun k => ?_) (ih (j + 1) ?_ (by omega) (by omega))
        · simp only [spec_skSlabs.l0]
          rw [if_pos (by omega), if_pos (by omega), if_pos (by omega), rd51 xs j hj1, l1In_eq, l1In_eq]
          simp only [Option.bind_some, decide_eq_true_eq]
          rw [if_pos e0, if_pos e1, w64s (by omega)]
        · intro i h hi2
          by_cases e2 : i = j
          · subst e2; simp [okSlab, e0, e1]
          · exact hv i h (by omega)
      · rw [hno (by simp only [okSlab, decide_eq_false e1, Bool.and_false])]
        refine Ev.step (fun k => ?_) (Ev.now false)
        simp only [spec_skSlabs.l0]
        rw [if_pos (by omega), if_pos (by omega), if_pos (by omega), rd51 xs j hj1, l1In_eq, l1In_eq]
        simp only [Option.bind_some, decide_eq_true_eq]
        rw [if_pos e0, if_neg e1]
    · rw [hno (by simp only [okSlab, decide_eq_false e0, Bool.false_and])]
      refine Ev.step (fun k => ?_) (Ev.now false)
      simp only [spec_skSlabs.l0]
      rw [if_pos (by omega), if_pos (by omega), if_pos (by omega), rd51 xs j hj1, l1In_eq, l1In_eq]
      simp only [Option.bind_some, decide_eq_true_eq]
      rw [if_neg e0]
theorem skSlabs_ev (xs : List S51) (hx : xs.length ≤ 1048576) : Ev (fun k => spec_skSlabs.f k xs) (okS xs) := by
  unfold spec_skSlabs.f okS
  rw [l1In_eq]
  simp only [Option.bind_some]
  by_cases g : 1 ≤ (xs.length : Int) ∧ (xs.length : Int) ≤ 7
  · simp only [g, and_self, decide_true, if_true, Bool.true_and]
    exact skSlabs_l0 xs hx xs.length 0 (fun i _ hi => absurd hi (Nat.not_lt_zero _)) (by omega) (by omega)
  · simp only [decide_eq_false g, Bool.false_eq_true, if_false, Bool.false_and]
    exact Ev.now _
theorem areSlabs_eq (xs : List S51) : impl_AreSlabs.f xs = some (okS xs) := by
  unfold impl_AreSlabs.f okS
  rw [List.not_any_eq_all_not]
  simp
theorem szSlabS_eq (xs : List S53) (b : Int) (hb : 0 ≤ b) (hb2 : b ≤ 1048576) (hx : xs.length ≤ maxLen) : laws_szSlabS.f xs b = some (if (xs.length : Int) > b then -1 else b - xs.length) := by
  unfold maxLen at hx
  unfold laws_szSlabS.f
  rw [w64 (by omega) (by omega)]
  by_cases h : (xs.length : Int) > b
  · rw [if_pos (by omega), if_pos h]
  · rw [if_neg (by omega), if_neg h]

theorem has_l0 (a : Int) (xs : List Int) (hx : xs.length ≤ 1048576) (d : Nat) : ∀ (j : Nat), (∀ i (h : i < xs.length), i < j → xs[i] ≠ a) → j ≤ xs.length → xs.length - j = d → Ev (fun k => spec_l1Has.l0 k a xs (xs.length : Int) (j : Int)) (decide (a ∈ xs)) := by
  induction d with
  | zero =>
    intro j hv hj hd
    have e : decide (a ∈ xs) = false := decide_eq_false (fun hm => by
      obtain ⟨i, hi, e⟩ := List.getElem_of_mem hm
      exact hv i hi (by omega) e)
    rw [e]
    exact Ev.step (fun k => by simp only [spec_l1Has.l0]; rw [if_neg (by omega)]) (Ev.now _)
  | succ d ih =>
    intro j hv hj hd
    have hj1 : j < xs.length := by omega
    by_cases e : xs[j] = a
    · rw [decide_eq_true (show a ∈ xs by rw [← e]; exact List.getElem_mem hj1)]
      refine Ev.step (fun k => ?_) (Ev.now true)
      simp only [spec_l1Has.l0]
      rw [if_pos (by omega), if_pos (by omega), if_pos (by omega), rd_nat xs j hj1, if_pos e]
    · refine Ev.step (fun k => ?_) (ih (j + 1) (fun i h hi => ?_) (by omega) (by omega))
      · simp only [spec_l1Has.l0]
        rw [if_pos (by omega), if_pos (by omega), if_pos (by omega), rd_nat xs j hj1, if_neg e, w64s (by omega)]
      · by_cases e2 : i = j
        · subst e2; exact e
        · exact hv i h (by omega)
theorem has_ev (a : Int) (xs : List Int) (hx : xs.length ≤ 1048576) : Ev (fun k => spec_l1Has.f k xs a) (decide (a ∈ xs)) :=
  has_l0 a xs hx xs.length 0 (fun i _ hi => absurd hi (Nat.not_lt_zero _)) (by omega) (by omega)

/-- From m places on, the last one first, with a above. -/
def isB (xs : List S51) (ys : List Int) : Nat → Int → Bool
  | 0, _ => true
  | m + 1, a => if stBad xs ys m a then false else isB xs ys m (wrap64 (a + (rd_T51 xs (rd ys (m : Int))).f0))
theorem stRun_isB (xs : List S51) (ys : List Int) (n : Nat) (k : Nat) : k ≤ n → (match stRun xs ys (bkTo n k) with | some a => isB xs ys (n - k) a | none => false) = isB xs ys n 0 := by
  induction k with
  | zero => intro _; rfl
  | succ k ih =>
    intro hk
    have h := ih (by omega)
    rw [bkTo, stRun_snoc]
    cases e : stRun xs ys (bkTo n k) with
    | none => rw [e] at h; exact h
    | some a =>
      rw [e] at h
      simp only [stStep, Option.bind_some]
      rw [show n - k = (n - (k + 1)) + 1 by omega] at h
      simp only [isB] at h
      split
      · rename_i a' ha
        split at ha
        · cases ha
        · rename_i hb
          rw [if_neg hb] at h
          rw [← h]
          have := Option.some.inj ha
          rw [this]
      · rename_i hn
        split at hn
        · rename_i hb
          rw [if_pos hb] at h
          exact h
        · cases hn
theorem stRun_some (xs : List S51) (ys : List Int) : (stRun xs ys (bkTo ys.length ys.length)).isSome = isB xs ys ys.length 0 := by
  have h := stRun_isB xs ys ys.length ys.length (Nat.le_refl _)
  rw [← h]
  cases stRun xs ys (bkTo ys.length ys.length) with
  | none => rfl
  | some a => rw [Nat.sub_self]; rfl
theorem okS_pos {xs : List S51} (h : okS xs = true) : 0 < xs.length ∧ xs.length ≤ 7 := by
  unfold okS at h
  simp only [Bool.and_eq_true, decide_eq_true_eq] at h
  omega

/-! ### Stacks -/
theorem nodup_len (n : Nat) : ∀ (o : List Int), o.Nodup → (∀ x ∈ o, 0 ≤ x ∧ x < (n : Int)) → o.length ≤ n := by
  induction n with
  | zero =>
    intro o _ h
    cases o with
    | nil => simp
    | cons x r => have := h x (by simp); omega
  | succ n ih =>
    intro o hn h
    by_cases hm : (n : Int) ∈ o
    · have h1 := ih (o.erase (n : Int)) (hn.erase _) (fun x hx => by
        have h2 := (List.Nodup.mem_erase_iff hn).mp hx
        have h3 := h x h2.2
        have h4 : x ≠ (n : Int) := h2.1
        omega)
      rw [List.length_erase_of_mem hm] at h1
      omega
    · have h1 := ih o hn (fun x hx => by
        have h3 := h x hx
        have h4 : x ≠ (n : Int) := fun e => hm (e ▸ hx)
        omega)
      omega
theorem nodup_rev {o : List Int} (h : o.reverse.Nodup) : o.Nodup := by
  have := (List.reverse_perm o).nodup_iff.mp h
  exact this
/-- From the top down (r: the places in the other order), with a lying above. -/
def okR (W B : Int → Int) : List Int → Int → Bool
  | [], _ => true
  | i :: r, a => !(r.contains i) && decide (a ≤ B i) && okR W B r (a + W i)
/-- How much may be laid on it. -/
def roomOf (W B : Int → Int) : List Int → Int
  | [] => 7000
  | i :: r => if roomOf W B r - W i < B i then roomOf W B r - W i else B i
theorem okR_iff (W B : Int → Int) (r : List Int) : ∀ a, (∀ i ∈ r, 1 ≤ W i ∧ W i ≤ 1000 ∧ 1 ≤ B i) → 0 ≤ a → a + 1000 * (r.length : Int) ≤ 7000 → (okR W B r a = true ↔ okR W B r 0 = true ∧ a ≤ roomOf W B r) := by
  induction r with
  | nil => intro a _ h0 h1; simp [okR, roomOf]; simp at h1; omega
  | cons i r ih =>
    intro a hw h0 h1
    have hi := hw i (by simp)
    have hr : ∀ j ∈ r, 1 ≤ W j ∧ W j ≤ 1000 ∧ 1 ≤ B j := fun j hj => hw j (List.mem_cons_of_mem _ hj)
    simp only [List.length_cons] at h1
    have e1 := ih (a + W i) hr (by omega) (by omega)
    have e2 := ih (0 + W i) hr (by omega) (by omega)
    simp only [okR, Bool.and_eq_true, decide_eq_true_eq, e1, e2, roomOf]
    constructor
    · rintro ⟨⟨h3, h4⟩, h5, h6⟩
      refine ⟨⟨⟨h3, by omega⟩, h5, by omega⟩, ?_⟩
      split <;> omega
    · rintro ⟨⟨⟨h3, h4⟩, h5, h6⟩, h7⟩
      split at h7
      · exact ⟨⟨h3, by omega⟩, h5, by omega⟩
      · exact ⟨⟨h3, by omega⟩, h5, by omega⟩
/-- What the program takes for a stack of n slabs. -/
def okO (W B : Int → Int) (n : Nat) (o : List Int) : Bool := (o.all fun x => decide (0 ≤ x ∧ x < (n : Int))) && okR W B o.reverse 0
theorem okR_nodup (W B : Int → Int) (r : List Int) : ∀ a, okR W B r a = true → r.Nodup := by
  induction r with
  | nil => intro a _; simp
  | cons i r ih =>
    intro a h
    simp only [okR, Bool.and_eq_true, Bool.not_eq_true', List.contains_eq_mem, decide_eq_false_iff_not] at h
    exact List.nodup_cons.mpr ⟨h.1.1, ih _ h.2⟩
theorem okO_len {W B : Int → Int} {n : Nat} {o : List Int} (h : okO W B n o = true) : o.length ≤ n := by
  simp only [okO, Bool.and_eq_true, List.all_eq_true, decide_eq_true_eq] at h
  have h1 := okR_nodup W B o.reverse 0 h.2
  exact nodup_len n o (nodup_rev h1) h.1
/-- All stacks that go on from o upwards, in order. -/
def stk (ok : List Int → Bool) (n : Nat) : Nat → List Int → List (List Int)
  | 0, o => [o]
  | d + 1, o => o :: (List.range n).flatMap fun (k : Nat) => if ok (o ++ [(k : Int)]) then stk ok n d (o ++ [(k : Int)]) else []
/-- The next one is a stack just where the reference goes on. -/
theorem okO_next {W B : Int → Int} {n k : Nat} {o : List Int} (hn : n ≤ 7) (hk : k < n) (hw : ∀ i : Int, 0 ≤ i → i < (n : Int) → 1 ≤ W i ∧ W i ≤ 1000 ∧ 1 ≤ B i) (h : okO W B n o = true) :
    okO W B n (o ++ [(k : Int)]) = true ↔ ¬ (k : Int) ∈ o ∧ W k ≤ roomOf W B o.reverse := by
  have hl := okO_len h
  simp only [okO, Bool.and_eq_true, List.all_eq_true, decide_eq_true_eq] at h
  have hkk := hw k (by omega) (by omega)
  have e : okO W B n (o ++ [(k : Int)]) = true ↔ okR W B ((k : Int) :: o.reverse) 0 = true := by
    simp only [okO, Bool.and_eq_true, List.all_eq_true, decide_eq_true_eq, List.reverse_append, List.reverse_cons, List.reverse_nil, List.nil_append, List.cons_append]
    constructor
    · exact fun g => g.2
    · refine fun g => ⟨fun x hx => ?_, g⟩
      rcases List.mem_append.mp hx with hx | hx
      · exact h.1 x hx
      · simp only [List.mem_singleton] at hx; omega
  rw [e]
  have hmem : ∀ i ∈ o.reverse, 1 ≤ W i ∧ W i ≤ 1000 ∧ 1 ≤ B i := fun i hi => by
    have := h.1 i (List.mem_reverse.mp hi)
    exact hw i this.1 this.2
  simp only [okR, Bool.and_eq_true, Bool.not_eq_true', List.contains_eq_mem, decide_eq_false_iff_not, decide_eq_true_eq, List.mem_reverse]
  by_cases hm : (k : Int) ∈ o
  · simp [hm]
  · have hlt : o.length + 1 ≤ n := by
      have h1 : (o ++ [(k : Int)]).Nodup := by
        rw [List.nodup_append]
        refine ⟨nodup_rev (okR_nodup W B _ _ h.2), by simp, ?_⟩
        intro a ha b hb
        simp only [List.mem_singleton] at hb
        rintro rfl
        exact hm (hb ▸ ha)
      have := nodup_len n _ h1 (fun x hx => by
        rcases List.mem_append.mp hx with hx | hx
        · exact h.1 x hx
        · simp only [List.mem_singleton] at hx; omega)
      simpa using this
    have e1 := okR_iff W B o.reverse (0 + W k) hmem (by omega) (by rw [List.length_reverse]; omega)
    rw [e1]
    simp only [Int.zero_add]
    constructor
    · rintro ⟨⟨h1, _⟩, _, h3⟩; exact ⟨h1, h3⟩
    · rintro ⟨h1, h3⟩; exact ⟨⟨h1, by omega⟩, h.2, h3⟩

/-! ### All stacks -/
def wS (xs : List S51) (i : Int) : Int := (rd_T51 xs i).f0
def bS (xs : List S51) (i : Int) : Int := (rd_T51 xs i).f1
theorem slab_in {xs : List S51} (h : okS xs = true) : ∀ i : Int, 0 ≤ i → i < (xs.length : Int) → 1 ≤ wS xs i ∧ wS xs i ≤ 1000 ∧ 1 ≤ bS xs i := by
  intro i h0 h1
  unfold okS at h
  rw [Bool.and_eq_true, List.all_eq_true] at h
  obtain ⟨j, rfl⟩ := Int.eq_ofNat_of_zero_le h0
  have hj : j < xs.length := by omega
  have h2 := h.2 xs[j] (List.getElem_mem hj)
  unfold okSlab at h2
  simp only [Bool.and_eq_true, decide_eq_true_eq] at h2
  unfold wS bS
  rw [rd51 xs j hj]
  omega
theorem slab_any {xs : List S51} (h : okS xs = true) : ∀ i : Int, 0 ≤ wS xs i ∧ wS xs i ≤ 1000 := by
  intro i
  unfold wS rd_T51
  rw [List.getD_eq_getElem?_getD]
  cases e : xs[i.toNat]? with
  | none => simp [z51]
  | some s =>
    have hm := List.mem_of_getElem? e
    unfold okS at h
    rw [Bool.and_eq_true, List.all_eq_true] at h
    have h2 := h.2 s hm
    unfold okSlab at h2
    simp only [Bool.and_eq_true, decide_eq_true_eq] at h2
    simp only [Option.getD_some]
    omega
theorem isB_okR {xs : List S51} (hs : okS xs = true) (o : List Int) (m : Nat) : ∀ a : Int, m ≤ o.length → 0 ≤ a → a + 1000 * (m : Int) ≤ 1000000000000 → isB xs o m a = okR (wS xs) (bS xs) (o.take m).reverse a := by
  induction m with
  | zero => intro a _ _ _; simp [isB, okR]
  | succ m ih =>
    intro a hm h0 h1
    have hl : m < o.length := by omega
    have hw := slab_any hs (rd o (m : Int))
    have e1 : (o.take (m + 1)).reverse = rd o (m : Int) :: (o.take m).reverse := by
      rw [rd_nat o m hl, List.take_succ_eq_append_getElem hl, List.reverse_append]; rfl
    rw [e1]
    simp only [isB, okR]
    have ew : wrap64 (a + (rd_T51 xs (rd o (m : Int))).f0) = a + wS xs (rd o (m : Int)) := by
      unfold wS at hw ⊢
      exact w64 (by omega) (by omega)
    rw [ew, ih _ (by omega) (by omega) (by omega)]
    unfold stBad
    have e2 : (o.take m).reverse.contains (rd o (m : Int)) = (o.take m).contains (rd o (m : Int)) := by
      rw [List.contains_eq_mem, List.contains_eq_mem]
      simp
    rw [e2]
    have e3 : (rd_T51 xs (rd o (m : Int))).f1 = bS xs (rd o (m : Int)) := rfl
    rw [e3]
    cases (o.take m).contains (rd o (m : Int)) with
    | true => simp
    | false =>
      by_cases g : a ≤ bS xs (rd o (m : Int))
      · rw [if_neg (by simp; omega)]; simp [g]
      · rw [if_pos (by simp; omega)]; simp [g]
theorem stkOk_okO {xs : List S51} (hs : okS xs = true) (o : List Int) (ho : o.length ≤ 1000) : stkOk xs o = okO (wS xs) (bS xs) xs.length o := by
  unfold stkOk okO
  rw [stRun_some, isB_okR hs o o.length 0 (Nat.le_refl _) (by omega) (by omega), List.take_length]
  congr 1
  apply List.all_congr rfl
  intro x
  exact decide_eq_decide.mpr (by omega)
/-- The weight of an order. -/
def wtO (xs : List S51) (o : List Int) : Int := (o.map (wS xs)).sum
theorem wtO_snoc (xs : List S51) (o : List Int) (k : Int) : wtO xs (o ++ [k]) = wtO xs o + wS xs k := by simp [wtO]
theorem wtO_bound {xs : List S51} (hs : okS xs = true) (o : List Int) : 0 ≤ wtO xs o ∧ wtO xs o ≤ 1000 * (o.length : Int) := by
  induction o with
  | nil => simp [wtO]
  | cons k r ih =>
    have h := slab_any hs k
    have e : wtO xs (k :: r) = wS xs k + wtO xs r := by simp [wtO]
    rw [e, List.length_cons]
    omega
/-- The greatest weight of some orders, or m. -/
def topO (xs : List S51) (m : Int) (L : List (List Int)) : Int := L.foldl (fun m o => mx m (wtO xs o)) m
theorem topO_app (xs : List S51) (m : Int) (L L' : List (List Int)) : topO xs m (L ++ L') = topO xs (topO xs m L) L' := by simp [topO]
theorem topO_ge (xs : List S51) (L : List (List Int)) : ∀ m, m ≤ topO xs m L := by
  induction L with
  | nil => intro m; exact Int.le_refl _
  | cons o L ih =>
    intro m
    have h := ih (mx m (wtO xs o))
    have h2 : m ≤ mx m (wtO xs o) := by unfold mx; split <;> omega
    simp only [topO, List.foldl_cons] at h ⊢
    omega
theorem topO_mx (xs : List S51) (L : List (List Int)) : ∀ m m', topO xs (mx m m') L = mx m (topO xs m' L) := by
  induction L with
  | nil => intro m m'; rfl
  | cons o L ih =>
    intro m m'
    have e : mx (mx m m') (wtO xs o) = mx m (mx m' (wtO xs o)) := by unfold mx; (repeat' split) <;> omega
    simp only [topO, List.foldl_cons] at ih ⊢
    rw [e, ih]
theorem topO_nonneg {xs : List S51} (hs : okS xs = true) (L : List (List Int)) : 0 ≤ topO xs 0 L := topO_ge xs L 0
theorem topO_from {xs : List S51} (L : List (List Int)) (m : Int) (hm : 0 ≤ m) : topO xs m L = mx m (topO xs 0 L) := by
  rw [← topO_mx]
  congr 1
  unfold mx; split <;> omega
theorem len_flat {α β : Type} (f : α → List β) (m : Nat) (h : ∀ k, (f k).length ≤ m) (L : List α) : (L.flatMap f).length ≤ L.length * m := by
  induction L with
  | nil => simp
  | cons k L ih =>
    rw [List.flatMap_cons, List.length_append, List.length_cons, Nat.succ_mul]
    have := h k
    omega
theorem stkAll_len (ok : List Int → Bool) (n : Nat) (hn : n ≤ 7) (d : Nat) : ∀ o, (stkAll ok n d o).length ≤ 8 ^ d := by
  induction d with
  | zero => intro o; simp [stkAll]
  | succ d ih =>
    intro o
    have h := len_flat (fun (k : Nat) => if ok (o ++ [(k : Int)]) then stkAll ok n d (o ++ [(k : Int)]) else []) (8 ^ d) (fun k => by
      show (if ok (o ++ [(k : Int)]) = true then stkAll ok n d (o ++ [(k : Int)]) else []).length ≤ 8 ^ d
      split
      · exact ih _
      · simp) (List.range n)
    simp only [stkAll, List.length_cons]
    rw [List.length_range] at h
    have h2 : n * 8 ^ d ≤ 7 * 8 ^ d := Nat.mul_le_mul_right _ hn
    have h3 : 0 < 8 ^ d := Nat.pow_pos (by omega)
    rw [Nat.pow_succ]
    omega
theorem stkAll_mem (ok : List Int → Bool) (n d : Nat) : ∀ o, ∀ p ∈ stkAll ok n d o, (p = o ∨ ok p = true) ∧ p.length ≤ o.length + d := by
  induction d with
  | zero => intro o p hp; simp only [stkAll, List.mem_singleton] at hp; subst hp; exact ⟨.inl rfl, by omega⟩
  | succ d ih =>
    intro o p hp
    simp only [stkAll, List.mem_cons, List.mem_flatMap] at hp
    rcases hp with rfl | ⟨k, _, hp⟩
    · exact ⟨.inl rfl, by omega⟩
    · split at hp
      · rename_i hk
        obtain ⟨h1, h2⟩ := ih _ p hp
        refine ⟨.inr ?_, by simp at h2; omega⟩
        rcases h1 with rfl | h1
        · exact hk
        · exact h1
      · cases hp
theorem least2_eq (a b : Int) : spec_l1Least.f a b = some (if a < b then a else b) := by unfold spec_l1Least.f; split <;> rfl
theorem most2_eq (a b : Int) : spec_l1Most.f a b = some (mx a b) := by
  unfold spec_l1Most.f mx
  split <;> split <;> first | rfl | (congr 1; omega)
theorem own2_eq (L : List Int) (h : L.length < 17592186044416) : spec_l1Own.f L = some L := by
  unfold spec_l1Own.f
  simp only [Option.bind_some, List.length_nil, List.nil_append]
  rw [if_pos (by omega)]
/-- The sum over the begin. -/
theorem skAll_l0 {xs : List S51} (hs : okS xs = true) (o : List Int) (room : Int) (best : List Int) (R : List Int × Int × Int) (hr : ∀ y ∈ o, 0 ≤ y ∧ y < (xs.length : Int)) (ho : o.length ≤ 1000)
    (hE : Ev (fun k => spec_skAll.l1 k xs o room best (wtO xs o) 1 xs (xs.length : Int) 0) R) (d : Nat) : ∀ j : Nat, j + d = o.length → Ev (fun k => spec_skAll.l0 k xs o room best (wtO xs (o.take j)) 1 o (o.length : Int) (j : Int)) R := by
  induction d with
  | zero =>
    intro j hj
    refine Ev.step (fun k => rfl) ?_
    simp only [spec_skAll.l0]
    rw [List.take_of_length_le (by omega)]
    exact ev_else (by omega) hE
  | succ d ih =>
    intro j hj
    have hl : j < o.length := by omega
    have hin := hr o[j] (List.getElem_mem hl)
    have hw := wtO_bound hs (o.take j)
    have hk := slab_any hs (rd o (j : Int))
    have e : wrap64 (wtO xs (o.take j) + (rd_T51 xs (rd o (j : Int))).f0) = wtO xs (o.take (j + 1)) := by
      rw [List.take_succ_eq_append_getElem hl, wtO_snoc, ← rd_nat o j hl]
      rw [List.length_take] at hw
      unfold wS at hk ⊢
      exact w64 (by omega) (by omega)
    refine Ev.step (fun k => rfl) ?_
    simp only [spec_skAll.l0]
    refine ev_if (by omega) (ev_if (by omega) (ev_if (by omega) (ev_if ?_ (ev_if ?_ ?_))))
    · rw [rd_nat o j hl]; exact hin.1
    · rw [rd_nat o j hl]; exact hin.2
    · rw [e, w64s (by omega)]
      exact ih (j + 1) (by omega)
theorem skAll_l1 {xs : List S51} (hs : okS xs = true) (o : List Int) (d : Nat) (ho : okO (wS xs) (bS xs) xs.length o = true) (hd : o.length + d = xs.length)
    (hrec : ∀ k : Nat, k < xs.length → stkOk xs (o ++ [(k : Int)]) = true → ∃ b, b.length ≤ 1000 ∧ Ev (fun r => spec_skAll.f r xs (o ++ [(k : Int)]) (roomOf (wS xs) (bS xs) (o ++ [(k : Int)]).reverse)) (b, topO xs 0 (stkSub (stkOk xs) xs.length d o k), ((stkSub (stkOk xs) xs.length d o k).length : Int)))
    (e : Nat) : ∀ (i : Nat) (best : List Int) (h c : Int), i + e = xs.length → best.length ≤ 1000 → 0 ≤ h → 0 ≤ c → c + ((((List.range xs.length).drop i).flatMap (stkSub (stkOk xs) xs.length d o)).length : Int) ≤ 1000000000 →
      ∃ b, b.length ≤ 1000 ∧ Ev (fun k => spec_skAll.l1 k xs o (roomOf (wS xs) (bS xs) o.reverse) best h c xs (xs.length : Int) (i : Int)) (b, topO xs h (((List.range xs.length).drop i).flatMap (stkSub (stkOk xs) xs.length d o)), c + ((((List.range xs.length).drop i).flatMap (stkSub (stkOk xs) xs.length d o)).length : Int)) := by
  obtain ⟨hp0, hp7⟩ := okS_pos hs
  induction e with
  | zero =>
    intro i best h c hi hb _ _ _
    refine ⟨best, hb, ?_⟩
    rw [List.drop_of_length_le (by rw [List.length_range]; omega)]
    refine Ev.step (fun k => rfl) ?_
    simp only [spec_skAll.l1, List.flatMap_nil, List.length_nil]
    refine ev_else (by omega) ?_
    simp only [topO, List.foldl_nil]
    rw [show c + ((0 : Nat) : Int) = c by omega]
    exact Ev.now _
  | succ e ih =>
    intro i best h c hi hb h0 hc0 hc1
    have hil : i < xs.length := by omega
    have hdr : (List.range xs.length).drop i = i :: (List.range xs.length).drop (i + 1) := by
      rw [List.drop_eq_getElem_cons (by rw [List.length_range]; exact hil), List.getElem_range]
    rw [hdr, List.flatMap_cons, List.length_append] at hc1 ⊢
    rw [topO_app]
    have hhas := has_ev (i : Int) o (by omega)
    have hnext := okO_next (n := xs.length) (k := i) hp7 hil (slab_in hs) ho
    have heq := stkOk_okO hs (o ++ [(i : Int)]) (by simp; omega)
    rw [← heq] at hnext
    by_cases ok : stkOk xs (o ++ [(i : Int)]) = true
    · obtain ⟨n1, n2⟩ := hnext.mp ok
      obtain ⟨b1, hb1, hE1⟩ := hrec i hil ok
      obtain ⟨S, hS⟩ : ∃ S, S = stkSub (stkOk xs) xs.length d o i := ⟨_, rfl⟩
      rw [← hS] at hE1 hc1 ⊢
      have hroom : roomOf (wS xs) (bS xs) (o ++ [(i : Int)]).reverse = if roomOf (wS xs) (bS xs) o.reverse - wS xs i < bS xs i then roomOf (wS xs) (bS xs) o.reverse - wS xs i else bS xs i := by
        rw [List.reverse_append]; rfl
      have hwi := slab_in hs (i : Int) (by omega) (by omega)
      have hrb : roomOf (wS xs) (bS xs) o.reverse ≤ 7000 := by
        cases o.reverse with
        | nil => exact Int.le_refl _
        | cons y r =>
          have hy : bS xs y ≤ 1000 := by
            unfold bS rd_T51
            rw [List.getD_eq_getElem?_getD]
            cases ey : xs[y.toNat]? with
            | none => simp [z51]
            | some s =>
              have hm := List.mem_of_getElem? ey
              unfold okS at hs
              rw [Bool.and_eq_true, List.all_eq_true] at hs
              have h2 := hs.2 s hm
              unfold okSlab at h2
              simp only [Bool.and_eq_true, decide_eq_true_eq] at h2
              simp only [Option.getD_some]
              omega
          simp only [roomOf]
          split <;> omega
      have hmost : mx h (topO xs 0 S) = topO xs h S := (topO_from S h h0).symm
      have h1 := topO_ge xs S h
      have fin : ∀ best' : List Int, best'.length ≤ 1000 → ∃ b, b.length ≤ 1000 ∧ Ev (fun k => spec_skAll.l1 k xs o (roomOf (wS xs) (bS xs) o.reverse) best' (topO xs h S) (wrap64 (c + (S.length : Int))) xs (xs.length : Int) (wrap64 ((i : Int) + 1))) (b, topO xs (topO xs h S) (((List.range xs.length).drop (i + 1)).flatMap (stkSub (stkOk xs) xs.length d o)), c + ((S.length + (((List.range xs.length).drop (i + 1)).flatMap (stkSub (stkOk xs) xs.length d o)).length : Nat) : Int)) := by
        intro best' hb'
        obtain ⟨b, hb2, hE2⟩ := ih (i + 1) best' (topO xs h S) (c + (S.length : Int)) (by omega) hb' (by omega) (by omega) (by omega)
        refine ⟨b, hb2, ?_⟩
        rw [w64s (by omega), w64 (x := c + (S.length : Int)) (by omega) (by omega)]
        rw [show c + ((S.length + (((List.range xs.length).drop (i + 1)).flatMap (stkSub (stkOk xs) xs.length d o)).length : Nat) : Int) = c + (S.length : Int) + ((((List.range xs.length).drop (i + 1)).flatMap (stkSub (stkOk xs) xs.length d o)).length : Int) by omega]
        exact hE2
      have body : ∀ b R, (∃ best', best'.length ≤ 1000 ∧ ((b1.length : Int) > (best.length : Int) → best' = b1) ∧ (¬ (b1.length : Int) > (best.length : Int) → best' = best) ∧ Ev (fun k => spec_skAll.l1 k xs o (roomOf (wS xs) (bS xs) o.reverse) best' (topO xs h S) (wrap64 (c + (S.length : Int))) xs (xs.length : Int) (wrap64 ((i : Int) + 1))) (b, R)) →
          Ev (fun k => spec_skAll.l1 k xs o (roomOf (wS xs) (bS xs) o.reverse) best h c xs (xs.length : Int) (i : Int)) (b, R) := by
        rintro b R ⟨best', _, c1, c2, hE⟩
        refine Ev.step (fun k => rfl) ?_
        simp only [spec_skAll.l1]
        refine ev_if (by omega) (ev_if (by omega) (ev_if (by omega) (Ev.bind hhas (ev_else (by simpa using n1) ?_))))
        refine Ev.step (fun k => rfl) ?_
        simp only [spec_skAll.j2]
        refine ev_else (by simp only [decide_eq_true_eq]; show ¬ wS xs i > _; omega) (ev_bind (own2_eq o (by omega)) (ev_bind rfl (ev_if (by simp; omega) (ev_bind (least2_eq _ _) ?_))))
        have hf0 : (rd_T51 xs (i : Int)).f0 = wS xs i := rfl
        have hf1 : (rd_T51 xs (i : Int)).f1 = bS xs i := rfl
        rw [hf0, hf1]
        have hw : wrap64 (roomOf (wS xs) (bS xs) o.reverse - wS xs i) = roomOf (wS xs) (bS xs) o.reverse - wS xs i := w64 (by omega) (by omega)
        rw [hw, ← hroom]
        refine Ev.bind hE1 ?_
        by_cases g : (b1.length : Int) > (best.length : Int)
        · refine ev_if g (ev_bind (most2_eq _ _) ?_)
          rw [c1 g] at hE
          rw [hmost]
          exact hE
        · refine ev_else g (ev_bind (most2_eq _ _) ?_)
          rw [c2 g] at hE
          rw [hmost]
          exact hE
      by_cases g : (b1.length : Int) > (best.length : Int)
      · obtain ⟨b, hb2, hE2⟩ := fin b1 hb1
        exact ⟨b, hb2, body b _ ⟨b1, hb1, fun _ => rfl, fun h => absurd g h, hE2⟩⟩
      · obtain ⟨b, hb2, hE2⟩ := fin best hb
        exact ⟨b, hb2, body b _ ⟨best, hb, fun h => absurd h g, fun _ => rfl, hE2⟩⟩
    · have hsub : stkSub (stkOk xs) xs.length d o i = [] := by
        cases d with
        | zero => rfl
        | succ d => simp only [stkSub]; rw [if_neg ok]
      rw [hsub] at hc1 ⊢
      simp only [List.length_nil, Nat.zero_add] at hc1 ⊢
      obtain ⟨b, hb2, hE2⟩ := ih (i + 1) best h c (by omega) hb h0 hc0 hc1
      refine ⟨b, hb2, ?_⟩
      have e0 : topO xs h [] = h := rfl
      rw [e0]
      refine Ev.step (fun k => rfl) ?_
      simp only [spec_skAll.l1]
      refine ev_if (by omega) (ev_if (by omega) (ev_if (by omega) (Ev.bind hhas ?_)))
      by_cases n1 : (i : Int) ∈ o
      · refine ev_if (by simpa using n1) ?_
        refine Ev.step (fun k => rfl) ?_
        simp only [spec_skAll.j2]
        refine ev_if trivial ?_
        rw [w64s (by omega)]
        exact hE2
      · refine ev_else (by simpa using n1) ?_
        refine Ev.step (fun k => rfl) ?_
        simp only [spec_skAll.j2]
        refine ev_if ?_ ?_
        · rw [decide_eq_true_eq]
          have := mt hnext.mpr ok
          show wS xs i > _
          have h3 : ¬ wS xs i ≤ roomOf (wS xs) (bS xs) o.reverse := fun h => this ⟨n1, h⟩
          omega
        · rw [w64s (by omega)]
          exact hE2
theorem skAll_ev {xs : List S51} (hs : okS xs = true) (d : Nat) : ∀ o : List Int, okO (wS xs) (bS xs) xs.length o = true → o.length + d = xs.length →
    ∃ b, b.length ≤ 1000 ∧ Ev (fun r => spec_skAll.f r xs o (roomOf (wS xs) (bS xs) o.reverse)) (b, topO xs 0 (stkAll (stkOk xs) xs.length d o), ((stkAll (stkOk xs) xs.length d o).length : Int)) := by
  obtain ⟨hp0, hp7⟩ := okS_pos hs
  induction d with
  | zero =>
    intro o ho hd
    have hlen := stkAll_len (stkOk xs) xs.length hp7 0 o
    obtain ⟨b, hb, hE⟩ := skAll_l1 hs o 0 ho hd (fun k hk ok => by
      have := stkOk_len xs _ ok
      simp at this
      omega) xs.length 0 o (wtO xs o) 1 (by omega) (by omega) (wtO_bound hs o).1 (by omega) (by
        rw [stkAll_eq] at hlen
        simp only [List.drop_zero, List.length_cons] at hlen ⊢
        omega)
    refine ⟨b, hb, ?_⟩
    have ho2 := ho
    simp only [okO, Bool.and_eq_true, List.all_eq_true, decide_eq_true_eq] at ho2
    have h0 := skAll_l0 hs o (roomOf (wS xs) (bS xs) o.reverse) o _ ho2.1 (by omega) hE o.length 0 (by omega)
    refine Ev.step (fun k => rfl) ?_
    simp only [spec_skAll.f]
    refine ev_bind (own2_eq o (by omega)) ?_
    rw [stkAll_eq]
    have e1 : topO xs 0 (o :: (List.range xs.length).flatMap (stkSub (stkOk xs) xs.length 0 o)) = topO xs (wtO xs o) ((List.range xs.length).flatMap (stkSub (stkOk xs) xs.length 0 o)) := by
      have hw := wtO_bound hs o
      have e : mx 0 (wtO xs o) = wtO xs o := by unfold mx; split <;> omega
      simp only [topO, List.foldl_cons]
      rw [e]
    rw [e1, List.length_cons]
    simp only [List.drop_zero, List.take_zero] at h0
    rw [show (((List.range xs.length).flatMap (stkSub (stkOk xs) xs.length 0 o)).length + 1 : Nat) = 1 + ((List.range xs.length).flatMap (stkSub (stkOk xs) xs.length 0 o)).length by omega]
    rw [show ((1 + ((List.range xs.length).flatMap (stkSub (stkOk xs) xs.length 0 o)).length : Nat) : Int) = 1 + (((List.range xs.length).flatMap (stkSub (stkOk xs) xs.length 0 o)).length : Int) by omega]
    exact h0
  | succ d ih =>
    intro o ho hd
    have hlen := stkAll_len (stkOk xs) xs.length hp7 (d + 1) o
    have hpow : 8 ^ (d + 1) ≤ 8 ^ 7 := Nat.pow_le_pow_right (by omega) (by omega)
    obtain ⟨b, hb, hE⟩ := skAll_l1 hs o (d + 1) ho hd (fun k hk ok => by
      have ok2 := ok
      rw [stkOk_okO hs _ (by simp; omega)] at ok2
      have hsub : stkSub (stkOk xs) xs.length (d + 1) o k = stkAll (stkOk xs) xs.length d (o ++ [(k : Int)]) := by
        simp only [stkSub]; rw [if_pos ok]
      rw [hsub]
      exact ih (o ++ [(k : Int)]) ok2 (by simp; omega)) xs.length 0 o (wtO xs o) 1 (by omega) (by omega) (wtO_bound hs o).1 (by omega) (by
        rw [stkAll_eq] at hlen
        simp only [List.drop_zero, List.length_cons] at hlen ⊢
        omega)
    refine ⟨b, hb, ?_⟩
    have ho2 := ho
    simp only [okO, Bool.and_eq_true, List.all_eq_true, decide_eq_true_eq] at ho2
    have h0 := skAll_l0 hs o (roomOf (wS xs) (bS xs) o.reverse) o _ ho2.1 (by omega) hE o.length 0 (by omega)
    refine Ev.step (fun k => rfl) ?_
    simp only [spec_skAll.f]
    refine ev_bind (own2_eq o (by omega)) ?_
    rw [stkAll_eq]
    have e1 : topO xs 0 (o :: (List.range xs.length).flatMap (stkSub (stkOk xs) xs.length (d + 1) o)) = topO xs (wtO xs o) ((List.range xs.length).flatMap (stkSub (stkOk xs) xs.length (d + 1) o)) := by
      have hw := wtO_bound hs o
      have e : mx 0 (wtO xs o) = wtO xs o := by unfold mx; split <;> omega
      simp only [topO, List.foldl_cons]
      rw [e]
    rw [e1, List.length_cons]
    simp only [List.drop_zero, List.take_zero] at h0
    rw [show (((List.range xs.length).flatMap (stkSub (stkOk xs) xs.length (d + 1) o)).length + 1 : Nat) = 1 + ((List.range xs.length).flatMap (stkSub (stkOk xs) xs.length (d + 1) o)).length by omega]
    rw [show ((1 + ((List.range xs.length).flatMap (stkSub (stkOk xs) xs.length (d + 1) o)).length : Nat) : Int) = 1 + (((List.range xs.length).flatMap (stkSub (stkOk xs) xs.length (d + 1) o)).length : Int) by omega]
    exact h0
theorem stacks_both {xs : List S51} (hs : okS xs = true) : ∃ b, Ev (fun r => spec_skEach.f r xs) (b, topO xs 0 (stkAll (stkOk xs) xs.length xs.length []), ((stkAll (stkOk xs) xs.length xs.length []).length : Int)) ∧ impl_stacks.f xs = some (stkAll (stkOk xs) xs.length xs.length []) ∧ (stkAll (stkOk xs) xs.length xs.length []).length ≤ 10000000 := by
  obtain ⟨hp0, hp7⟩ := okS_pos hs
  obtain ⟨b, _, hE⟩ := skAll_ev hs xs.length [] (by simp [okO, okR]) (by simp)
  have hlen := stkAll_len (stkOk xs) xs.length hp7 xs.length []
  have hpow : 8 ^ xs.length ≤ 8 ^ 7 := Nat.pow_le_pow_right (by omega) hp7
  have hl : (stkAll (stkOk xs) xs.length xs.length []).length ≤ 10000000 := by omega
  refine ⟨b, ?_, ?_, hl⟩
  · unfold spec_skEach.f
    refine Ev.bind hE (Ev.now _)
  · unfold impl_stacks.f
    rw [if_pos ⟨hp0, hp7, by omega⟩]

theorem hv_l1 {xs : List S51} (hs : okS xs = true) (m : Int) (L : List (List Int)) (i : Int) (o : List Int) (hr : ∀ y ∈ o, 0 ≤ y ∧ y < (xs.length : Int)) (ho : o.length ≤ 1000) (R : Int × Bool)
    (hE : Ev (fun k => impl_HeaviestStack.l0 k xs (mx m (wtO xs o)) L (L.length : Int) (wrap64 (i + 1))) R) (d : Nat) : ∀ j : Nat, j + d = o.length → Ev (fun k => impl_HeaviestStack.l1 k xs m (wtO xs (o.take j)) L (L.length : Int) i o (o.length : Int) (j : Int)) R := by
  induction d with
  | zero =>
    intro j hj
    refine Ev.step (fun k => rfl) ?_
    simp only [impl_HeaviestStack.l1]
    rw [List.take_of_length_le (by omega)]
    exact ev_else (by omega) hE
  | succ d ih =>
    intro j hj
    have hl : j < o.length := by omega
    have hin := hr o[j] (List.getElem_mem hl)
    have hw := wtO_bound hs (o.take j)
    have hk := slab_any hs (rd o (j : Int))
    have e : wrap64 (wtO xs (o.take j) + (rd_T51 xs (rd o (j : Int))).f0) = wtO xs (o.take (j + 1)) := by
      rw [List.take_succ_eq_append_getElem hl, wtO_snoc, ← rd_nat o j hl]
      rw [List.length_take] at hw
      unfold wS at hk ⊢
      exact w64 (by omega) (by omega)
    refine Ev.step (fun k => rfl) ?_
    simp only [impl_HeaviestStack.l1]
    refine ev_if (by omega) (ev_if (by omega) (ev_if (by omega) (ev_if ?_ (ev_if ?_ ?_))))
    · rw [rd_nat o j hl]; exact hin.1
    · rw [rd_nat o j hl]; exact hin.2
    · rw [e, w64s (by omega)]
      exact ih (j + 1) (by omega)
theorem hv_l0 {xs : List S51} (hs : okS xs = true) (L : List (List Int)) (hL : ∀ o ∈ L, (∀ y ∈ o, 0 ≤ y ∧ y < (xs.length : Int)) ∧ o.length ≤ 1000) (hn : L.length ≤ 10000000) (d : Nat) : ∀ (i : Nat) (m : Int), i + d = L.length → Ev (fun k => impl_HeaviestStack.l0 k xs m L (L.length : Int) (i : Int)) (topO xs m (L.drop i), true) := by
  induction d with
  | zero =>
    intro i m hi
    refine Ev.step (fun k => rfl) ?_
    simp only [impl_HeaviestStack.l0]
    rw [List.drop_of_length_le (by omega)]
    exact ev_else (by omega) (Ev.now _)
  | succ d ih =>
    intro i m hi
    have hl : i < L.length := by omega
    have e1 : rd_L3 L (i : Int) = L[i] := by simp [rd_L3, List.getD_eq_getElem?_getD, List.getElem?_eq_getElem hl]
    obtain ⟨h1, h2⟩ := hL L[i] (List.getElem_mem hl)
    have e2 : topO xs m (L.drop i) = topO xs (mx m (wtO xs L[i])) (L.drop (i + 1)) := by
      rw [List.drop_eq_getElem_cons hl]; rfl
    refine Ev.step (fun k => rfl) ?_
    simp only [impl_HeaviestStack.l0]
    rw [e1, e2]
    refine ev_if (by omega) (ev_if (by omega) (ev_if (by omega) ?_))
    have := hv_l1 hs m L (i : Int) L[i] h1 h2 (topO xs (mx m (wtO xs L[i])) (L.drop (i + 1)), true) (by rw [w64s (by omega)]; exact ih (i + 1) _ (by omega)) L[i].length 0 (by omega)
    exact this
theorem FnExactHeaviestStack : laws_FnExactHeaviestStack.Pure := by
  intro xs hm _ _
  apply Ev.rounds (r := true)
  unfold laws_FnExactHeaviestStack.f
  rw [szSlabS_eq xs _ (by omega) (by omega) hm]
  simp only [Option.bind_some]
  by_cases h : (xs.length : Int) > 1048576
  · exact ev_if (by rw [if_pos h]; omega) (Ev.now _)
  have hx : xs.length ≤ 1048576 := by omega
  have hz : (xs.map conv).length ≤ 1048576 := by rw [List.length_map]; exact hx
  have key : ∃ q, Ev (fun k => spec_HeaviestStack.f k (xs.map conv)) q ∧ Ev (fun k => impl_HeaviestStack.f k (xs.map conv)) q := by
    unfold spec_HeaviestStack.f impl_HeaviestStack.f
    rw [areSlabs_eq]
    simp only [Option.bind_some]
    cases hb : okS (xs.map conv) with
    | true =>
      obtain ⟨b, h1, h2, h3⟩ := stacks_both hb
      obtain ⟨hp0, hp7⟩ := okS_pos hb
      refine ⟨_, Ev.bind (skSlabs_ev _ hz) (ev_if hb (Ev.bind h1 (Ev.now _))), ev_if rfl (ev_bind h2 ?_)⟩
      refine hv_l0 hb _ ?_ h3 _ 0 0 (Nat.zero_add _)
      intro o ho
      obtain ⟨m1, m2⟩ := stkAll_mem _ _ _ _ o ho
      simp only [List.length_nil, Nat.zero_add] at m2
      refine ⟨?_, by omega⟩
      intro y hy
      rcases m1 with rfl | m1
      · cases hy
      · simp only [stkOk, Bool.and_eq_true, List.all_eq_true, decide_eq_true_eq] at m1
        have := m1.1 y hy
        omega
    | false => exact ⟨(0, false), Ev.bind (skSlabs_ev _ hz) (ev_else (by rw [hb]; simp) (Ev.now _)), ev_else (by simp) (Ev.now _)⟩
  obtain ⟨q, hs, hi⟩ := key
  refine ev_else (by rw [if_neg h]; omega) (Ev.bind (toSlabS_ev xs hx) (Ev.bind hs (Ev.bind (toSlabS_ev xs hx) (Ev.bind hi (ev_if rfl ?_)))))
  refine Ev.step (fun k => rfl) ?_
  simp only [laws_FnExactHeaviestStack.j0]
  exact ev_else (by simp) (Ev.bind (toSlabS_ev xs hx) (Ev.bind (eqSlabS_self _ hz) (ev_if rfl (Ev.now _))))

end Go.Proofs.Ytnppcpjkjepfeaa.Pure
