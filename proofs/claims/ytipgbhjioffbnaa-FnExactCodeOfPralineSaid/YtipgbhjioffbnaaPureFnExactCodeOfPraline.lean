/- For all arguments the program's CodeOfPraline returns what the reference's CodeOfPraline returns, in memory that no later call and no caller's writing touches. No condition. -/
import Derived.Test.YtipgbhjioffbnaaQ13
namespace Go.Proofs.Ytipgbhjioffbnaa.Pure
open Go.RowKit Go.Proofs.Ytipgbhjioffbnaa.Q Go.Proofs.YtipgbhjioffbnaaW.PrintWords Go.Proofs.YtipgbhjioffbnaaW.PrintLast
set_option linter.unusedVariables false
set_option linter.unusedSimpArgs false

theorem w64 {x : Int} (h0 : -9223372036854775808 ≤ x) (h1 : x ≤ 9223372036854775807) : wrap64 x = x := by
  unfold wrap64
  omega
theorem wf_i64 {x : Int} (h : (Lit.int .i64 x).wf = true) : -9223372036854775808 ≤ x ∧ x ≤ 9223372036854775807 := by
  have hmin : IntKind.i64.min = -9223372036854775808 := rfl
  have hmax : IntKind.i64.max = 9223372036854775807 := rfl
  simp only [Lit.wf, Bool.and_eq_true, decide_eq_true_eq] at h
  omega

theorem two {α β : Type} {g : Nat → Option α} {f : Nat → Option β} {a : α} {b : β} (h : Ev g a) (h' : Ev f b) : ∃ k, g k = some a ∧ f k = some b := by
  obtain ⟨K, h⟩ := h
  obtain ⟨K', h'⟩ := h'
  exact ⟨max K K', h _ (by omega), h' _ (by omega)⟩
theorem str_app (xs ys : List Int) : strOfNums (xs ++ ys) = strOfNums xs ++ strOfNums ys := by
  apply ByteArray.ext
  simp [strOfNums]
theorem str_nil : strOfNums [] = (⟨#[]⟩ : ByteArray) := rfl
theorem str_size (xs : List Int) : (strOfNums xs).size = xs.length := by simp [strOfNums, ByteArray.size]
theorem ba_nil_app (b : ByteArray) : (⟨#[]⟩ : ByteArray) ++ b = b := by
  apply ByteArray.ext
  simp
theorem ba_app_nil (b : ByteArray) : b ++ (⟨#[]⟩ : ByteArray) = b := by
  apply ByteArray.ext
  simp
theorem ba_assoc (a b c : ByteArray) : a ++ b ++ c = a ++ (b ++ c) := by
  apply ByteArray.ext
  simp
theorem ev_if {α : Type} {c : Prop} [Decidable c] {g f : Nat → Option α} {r : α} (hc : c) (h : Ev g r) : Ev (fun k => if c then g k else f k) r :=
  Ev.congr (fun k => if_pos hc) h
theorem ev_else {α : Type} {c : Prop} [Decidable c] {g f : Nat → Option α} {r : α} (hc : ¬ c) (h : Ev f r) : Ev (fun k => if c then g k else f k) r :=
  Ev.congr (fun k => if_neg hc) h
theorem ev_bind {α β : Type} {a : α} {o : Option α} {f : Nat → α → Option β} {r : β} (h : o = some a) (k : Ev (fun n => f n a) r) : Ev (fun n => o.bind (f n)) r :=
  Ev.congr (fun n => by rw [h]; rfl) k

theorem l1In_eq (a b c : Int) : spec_l1In.f a b c = some (decide (b ≤ a ∧ a ≤ c)) := by
  unfold spec_l1In.f
  by_cases h : b ≤ a
  · rw [if_pos (show a ≥ b from h)]; simp [h]
  · rw [if_neg (show ¬ a ≥ b from h)]; simp [h]
theorem within_eq (a b c : Int) : impl_within.f a b c = some (decide (b ≤ a ∧ a ≤ c)) := by
  unfold impl_within.f
  by_cases h : b ≤ a
  · rw [if_pos h]; simp [h]
  · rw [if_neg h]; simp [h]
theorem within_l1In (a b c : Int) : impl_within.f a b c = spec_l1In.f a b c := by rw [within_eq, l1In_eq]

/-- For how many t tasters with r rounds are enough, m being reached so far, at most 1000000. -/
def rm (r : Int) : Nat → Int → Int
  | 0, m => mn m 1000000
  | t + 1, m => rm r t (m * (r + 1))
theorem mn_le (a b : Int) : mn a b ≤ b ∧ mn a b ≤ a ∧ (mn a b = a ∨ mn a b = b) := by
  unfold mn
  split
  · refine ⟨by omega, by omega, .inr rfl⟩
  · refine ⟨by omega, by omega, .inl rfl⟩
theorem mul_le' {a b c d : Int} (h1 : a ≤ b) (h2 : c ≤ d) (h3 : 0 ≤ c) (h4 : 0 ≤ b) : a * c ≤ b * d :=
  Int.le_trans (Int.mul_le_mul_of_nonneg_right h1 h3) (Int.mul_le_mul_of_nonneg_left h2 h4)
theorem rm_big (r : Int) (hr : 0 ≤ r) (t : Nat) : ∀ m : Int, 1000000 ≤ m → rm r t m = 1000000 := by
  induction t with
  | zero => intro m hm; show mn m 1000000 = 1000000; unfold mn; split <;> omega
  | succ t ih =>
    intro m hm
    refine ih _ ?_
    have := mul_le' (a := m) (b := m) (c := 1) (d := r + 1) (by omega) (by omega) (by omega) (by omega)
    omega
theorem rm_mono (t : Nat) : ∀ (r r' m m' : Int), 0 ≤ r → r ≤ r' → 0 ≤ m → m ≤ m' → rm r t m ≤ rm r' t m' := by
  induction t with
  | zero => intro r r' m m' h1 h2 h3 h4; show mn m 1000000 ≤ mn m' 1000000; unfold mn; split <;> split <;> omega
  | succ t ih =>
    intro r r' m m' h1 h2 h3 h4
    exact ih r r' _ _ h1 h2 (Int.mul_nonneg h3 (by omega)) (mul_le' h4 (by omega) (by omega) (by omega))
theorem rm_range (r : Int) (hr : 0 ≤ r) (t : Nat) : ∀ m : Int, 1 ≤ m → 1 ≤ rm r t m ∧ rm r t m ≤ 1000000 := by
  induction t with
  | zero => intro m hm; show 1 ≤ mn m 1000000 ∧ mn m 1000000 ≤ 1000000; unfold mn; split <;> omega
  | succ t ih =>
    intro m hm
    refine ih _ ?_
    have := mul_le' (a := 1) (b := m) (c := 1) (d := r + 1) hm (by omega) (by omega) (by omega)
    omega
theorem least_eq (a b : Int) : spec_l1Least.f a b = some (mn a b) := by
  unfold spec_l1Least.f mn
  by_cases h : a < b
  · rw [if_pos h, if_neg (by omega)]
  · by_cases h2 : b < a
    · rw [if_neg h, if_pos h2]
    · rw [if_neg h, if_neg h2]; rw [show b = a by omega]
theorem bxRoom_l0 (r : Int) (hr : 0 ≤ r) (hr2 : r ≤ 1000000) (t : Nat) : t ≤ 1048576 → ∀ m : Int, 1 ≤ m → m ≤ 2000000000000 → Ev (fun k => spec_bxRoom.l0 k (t : Int) r m) (rm r t m) := by
  induction t with
  | zero =>
    intro _ m h1 h2
    refine Ev.step (f := fun _ => some (mn m 1000000)) (fun k => ?_) (Ev.now _)
    simp only [spec_bxRoom.l0]
    rw [if_neg (by omega), least_eq]; rfl
  | succ t ih =>
    intro ht m h1 h2
    by_cases hm : m < 1000000
    · have b1 := mul_le' (a := 1) (b := m) (c := 1) (d := r + 1) h1 (by omega) (by omega) (by omega)
      have b2 := mul_le' (a := m) (b := 1000000) (c := r + 1) (d := 1000001) (by omega) (by omega) (by omega) (by omega)
      refine Ev.step (f := fun k => spec_bxRoom.l0 k (t : Int) r (m * (r + 1))) (fun k => ?_) (ih (by omega) (m * (r + 1)) (by omega) (by omega))
      simp only [spec_bxRoom.l0]
      rw [if_pos (by omega), if_pos hm, w64 (x := r + 1) (by omega) (by omega), w64 (x := m * (r + 1)) (by omega) (by omega), w64 (by omega) (by omega), show ((t + 1 : Nat) : Int) - 1 = (t : Int) by omega]
    · rw [rm_big r hr (t + 1) m (by omega)]
      refine Ev.step (f := fun _ => some 1000000) (fun k => ?_) (Ev.now _)
      simp only [spec_bxRoom.l0]
      rw [if_pos (by omega), if_neg hm, least_eq]
      have : mn m 1000000 = 1000000 := by unfold mn; split <;> omega
      rw [this]; rfl
theorem bxRoom_ev (t : Nat) (r : Int) (ht : t ≤ 1048576) (hr : 0 ≤ r) (hr2 : r ≤ 1000000) : Ev (fun k => spec_bxRoom.f k (t : Int) r) (rm r t 1) := bxRoom_l0 r hr hr2 t ht 1 (by omega) (by omega)
theorem product_l0 (n : Int) (hn : 1 ≤ n) (hn2 : n ≤ 1000001) (t : Nat) (ht : t ≤ 1048576) (d : Nat) : ∀ (i : Nat) (out : Int), t - i = d → i ≤ t → 1 ≤ out → out ≤ 1000000 →
    ∃ p, Ev (fun k => impl_product.l0 k 1000000 out (List.replicate t n) ((List.replicate t n).length : Int) (i : Int)) p ∧ mn p 1000000 = rm (n - 1) d out := by
  induction d with
  | zero =>
    intro i out hd hi h1 h2
    refine ⟨out, Ev.step (f := fun _ => some out) (fun k => ?_) (Ev.now _), rfl⟩
    simp only [impl_product.l0]
    rw [if_neg (by simp; omega)]
  | succ d ih =>
    intro i out hd hi h1 h2
    have hit : i < t := by omega
    have hrd : rd (List.replicate t n) (i : Int) = n := by simp [rd, List.getD_eq_getElem?_getD, List.getElem?_replicate, hit]
    have e0 : wrap64 (Int.tdiv 1000000 n) = 1000000 / n := by
      rw [Int.tdiv_eq_ediv_of_nonneg (by omega)]
      have q1 : 0 ≤ (1000000 : Int) / n := Int.ediv_nonneg (by omega) (by omega)
      have q2 : (1000000 : Int) / n ≤ 1000000 := Int.ediv_le_self _ (by omega)
      exact w64 (by omega) (by omega)
    have hstep : ∀ k, impl_product.l0 (k + 1) 1000000 out (List.replicate t n) ((List.replicate t n).length : Int) (i : Int) =
        if out > 1000000 / n then some 1000001 else impl_product.l0 k 1000000 (wrap64 (out * n)) (List.replicate t n) ((List.replicate t n).length : Int) ((i + 1 : Nat) : Int) := by
      intro k
      simp only [impl_product.l0]
      rw [if_pos (by simp; omega), if_pos (by omega), if_pos (by simp; omega), hrd, if_pos (by omega), if_neg (by omega), e0]
      rw [w64 (x := (i : Int) + 1) (by omega) (by omega), show wrap64 (1000000 + 1) = 1000001 from w64 (by omega) (by omega), show (i : Int) + 1 = ((i + 1 : Nat) : Int) by omega]
    by_cases hbig : out > 1000000 / n
    · have hlt : 1000000 < out * n := Int.lt_mul_of_ediv_lt (by omega) hbig
      refine ⟨1000001, Ev.step (f := fun _ => some 1000001) (fun k => by rw [hstep k, if_pos hbig]) (Ev.now _), ?_⟩
      show mn 1000001 1000000 = rm (n - 1) d (out * (n - 1 + 1))
      rw [show n - 1 + 1 = n by omega, rm_big (n - 1) (by omega) d _ (by omega)]; rfl
    · have hle : out * n ≤ 1000000 := by
        have h := Int.mul_le_of_le_ediv (c := n) (a := out) (b := 1000000) (by omega) (by omega)
        omega
      have hlo := mul_le' (a := 1) (b := out) (c := 1) (d := n) h1 hn (by omega) (by omega)
      obtain ⟨p, hp, hq⟩ := ih (i + 1) (out * n) (by omega) (by omega) (by omega) hle
      refine ⟨p, Ev.step (fun k => by rw [hstep k, if_neg hbig, w64 (by omega) (by omega)]) hp, ?_⟩
      rw [hq]
      show rm (n - 1) d (out * n) = rm (n - 1) d (out * (n - 1 + 1))
      rw [show n - 1 + 1 = n by omega]
theorem enough_ev (t : Nat) (r : Int) (ht : t ≤ 1048576) (hr : 0 ≤ r) (hr2 : r ≤ 1000000) : Ev (fun k => impl_enough.f k (t : Int) r) (rm r t 1) := by
  obtain ⟨p, hp, hq⟩ := product_l0 (r + 1) (by omega) (by omega) t ht t 0 1 (by omega) (by omega) (by omega) (by omega)
  rw [show r + 1 - 1 = r by omega] at hq
  unfold impl_enough.f
  rw [w64 (x := r + 1) (by omega) (by omega)]
  refine ev_bind (a := List.replicate t (r + 1)) ?_ (Ev.bind (a := p) hp ?_)
  · unfold slices_Repeat_int_int.f
    rw [if_pos (show [r + 1].length = 1 from rfl), if_pos (by omega), if_pos (by omega)]
    simp
  · rw [← hq]; exact Ev.now _
theorem both_eq (t r : Int) : spec_bxBoth.f t r = some (decide ((1 ≤ t ∧ t ≤ 20) ∧ 1 ≤ r ∧ r ≤ 20)) := by
  unfold spec_bxBoth.f
  simp only [l1In_eq, Option.bind_some]
  by_cases h : 1 ≤ t ∧ t ≤ 20
  · simp [h]
  · simp [h]
theorem areTasters_eq (t r : Int) : impl_areTasters.f t r = spec_bxBoth.f t r := by
  unfold impl_areTasters.f spec_bxBoth.f
  simp only [within_l1In]
theorem room_both (t r : Int) (h : 0 ≤ t) (h2 : t ≤ 1048576) (hr : 0 ≤ r) (hr2 : r ≤ 1000000) : Ev (fun k => spec_bxRoom.f k t r) (rm r t.toNat 1) ∧ Ev (fun k => impl_enough.f k t r) (rm r t.toNat 1) := by
  obtain ⟨n, rfl⟩ := Int.eq_ofNat_of_zero_le h
  exact ⟨bxRoom_ev n r (by omega) hr hr2, enough_ev n r (by omega) hr hr2⟩

theorem pralines_eq (a : Int) : spec_bxPralines.f a = some (decide (1 ≤ a ∧ a ≤ 1000000)) := by
  unfold spec_bxPralines.f
  rw [l1In_eq]; rfl
theorem arePralines_eq (a : Int) : impl_arePralines.f a = some (decide (1 ≤ a ∧ a ≤ 1000000)) := by
  unfold impl_arePralines.f
  rw [within_eq]; rfl

theorem found_both (p t r : Int) : ∃ b : Bool, Ev (fun k => spec_bxEnough.f k p t r) b ∧ Ev (fun k => impl_areFound.f k p t r) b ∧ (b = true → 1 ≤ p ∧ p ≤ 1000000 ∧ 1 ≤ t ∧ t ≤ 20 ∧ 1 ≤ r ∧ r ≤ 20) := by
  unfold spec_bxEnough.f impl_areFound.f
  rw [pralines_eq, arePralines_eq, areTasters_eq, both_eq]
  simp only [Option.bind_some, decide_eq_true_eq]
  by_cases g : 1 ≤ p ∧ p ≤ 1000000
  · by_cases g2 : (1 ≤ t ∧ t ≤ 20) ∧ 1 ≤ r ∧ r ≤ 20
    · obtain ⟨h1, h2⟩ := room_both t r (by omega) (by omega) (by omega) (by omega)
      exact ⟨decide (p ≤ rm r t.toNat 1), ev_if g (ev_if g2 (Ev.bind h1 (Ev.now _))), ev_if g (ev_if g2 (Ev.bind h2 (Ev.now _))), fun _ => by omega⟩
    · exact ⟨false, ev_if g (ev_else g2 (Ev.now _)), ev_if g (ev_else g2 (Ev.now _)), fun h => by cases h⟩
  · exact ⟨false, ev_else g (Ev.now _), ev_else g (Ev.now _), fun h => by cases h⟩

theorem rd_nat (xs : List Int) (j : Nat) (h : j < xs.length) : rd xs (j : Int) = xs[j] := by
  simp [rd, List.getD_eq_getElem?_getD, List.getElem?_eq_getElem h]
theorem w64s {j : Nat} (h : j < 9223372036854775807) : wrap64 ((j : Int) + 1) = ((j + 1 : Nat) : Int) := by
  rw [w64 (by omega) (by omega)]; omega
theorem eqIntS_l0 (xs ys : List Int) (hl : xs.length = ys.length) (hx : xs.length ≤ 1099511627776) (d : Nat) : ∀ (j : Nat), (∀ i (h : i < xs.length) (h' : i < ys.length), i < j → xs[i] = ys[i]) → j ≤ xs.length → xs.length - j = d →
    Ev (fun k => laws_eqIntS.l0 k xs ys (j : Int)) (decide (xs = ys)) := by
  induction d with
  | zero =>
    intro j hv hj hd
    have e : xs = ys := List.ext_getElem hl (fun i h h' => hv i h h' (by omega))
    refine Ev.step (fun k => by simp only [laws_eqIntS.l0]; rw [if_neg (by omega)]) ?_
    simpa [e] using Ev.now true
  | succ d ih =>
    intro j hv hj hd
    have hj1 : j < xs.length := by omega
    have hj2 : j < ys.length := by omega
    by_cases e : xs[j] = ys[j]
    · refine Ev.step (f := fun k => laws_eqIntS.l0 k xs ys ((j + 1 : Nat) : Int)) (fun k => ?_) (ih (j + 1) ?_ (by omega) (by omega))
      · simp only [laws_eqIntS.l0]
        rw [if_pos (by omega), if_pos (by omega), if_pos (by omega), rd_nat xs j hj1, rd_nat ys j hj2, if_pos e, w64s (by omega)]
      · intro i h h' hi
        by_cases e2 : i = j
        · subst e2; exact e
        · exact hv i h h' (by omega)
    · have hne : decide (xs = ys) = false := by
        simp only [decide_eq_false_iff_not]
        rintro rfl
        exact e rfl
      rw [hne]
      refine Ev.step (fun k => ?_) (Ev.now false)
      simp only [laws_eqIntS.l0]
      rw [if_pos (by omega), if_pos (by omega), if_pos (by omega), rd_nat xs j hj1, rd_nat ys j hj2, if_neg e]
theorem eqIntS_ev (xs ys : List Int) (hx : xs.length ≤ 1099511627776) : Ev (fun k => laws_eqIntS.f k xs ys) (decide (xs = ys)) := by
  unfold laws_eqIntS.f
  by_cases h : xs.length = ys.length
  · refine ev_if (by omega) ?_
    exact eqIntS_l0 xs ys h hx xs.length 0 (fun i _ _ hi => absurd hi (Nat.not_lt_zero _)) (by omega) (by omega)
  · refine ev_else (by omega) ?_
    have hne : decide (xs = ys) = false := by
      simp only [decide_eq_false_iff_not]
      rintro rfl
      exact h rfl
    rw [hne]
    exact Ev.now false
theorem eqIntS_self (xs : List Int) (hx : xs.length ≤ 1099511627776) : Ev (fun k => laws_eqIntS.f k xs xs) true := by
  have := eqIntS_ev xs xs hx
  simpa using this

/-- m, m + 1, .. : n numbers. -/
def upFrom : Nat → Int → List Int
  | 0, _ => []
  | n + 1, m => m :: upFrom n (m + 1)
theorem upFrom_len (n : Nat) : ∀ m, (upFrom n m).length = n := by
  induction n with
  | zero => intro m; rfl
  | succ n ih => intro m; simp [upFrom, ih]
theorem upFrom_get (n : Nat) : ∀ (m : Int) (i : Nat) (h : i < (upFrom n m).length), (upFrom n m)[i] = m + i := by
  induction n with
  | zero => intro m i h; simp [upFrom] at h
  | succ n ih =>
    intro m i h
    cases i with
    | zero => simp [upFrom]
    | succ i =>
      simp only [upFrom, List.getElem_cons_succ]
      rw [ih (m + 1) i (by simpa [upFrom] using h)]
      omega
theorem upFrom_rd (n : Nat) (m : Int) (i : Nat) (h : i < n) : rd (upFrom n m) (i : Int) = m + i := by
  have h' : i < (upFrom n m).length := by rw [upFrom_len]; exact h
  rw [rd_nat _ _ h', upFrom_get]
theorem markIntS_l0 (n : Nat) (m0 : Int) (hm0 : 0 ≤ m0) (hm : m0 + n ≤ 1099511627776) (d : Nat) : ∀ (j : Nat) (ys : List Int), ys.length = n → (∀ i (h : i < ys.length), i < j → ys[i] = m0 + i) → j ≤ n → n - j = d →
    Ev (fun k => laws_markIntS.l0 k ys (m0 + j) (j : Int)) (m0 + n, upFrom n m0) := by
  induction d with
  | zero =>
    intro j ys hl hv hj hd
    obtain rfl : j = n := by omega
    have e : ys = upFrom j m0 := List.ext_getElem (by rw [hl, upFrom_len]) (fun i h h' => by rw [hv i h (by omega), upFrom_get])
    rw [e]
    refine Ev.step (fun k => ?_) (Ev.now _)
    simp only [laws_markIntS.l0]
    rw [if_neg (by rw [upFrom_len]; omega)]
  | succ d ih =>
    intro j ys hl hv hj hd
    have h := ih (j + 1) (ys.set j (m0 + j)) (by simp [hl]) (by
      intro i h hi
      rw [List.getElem_set]
      by_cases e : j = i
      · subst e; simp
      · rw [if_neg e]; exact hv i (by simpa using h) (by omega)) (by omega) (by omega)
    rw [show m0 + ((j + 1 : Nat) : Int) = m0 + (j : Int) + 1 by omega] at h
    refine Ev.step (fun k => ?_) h
    simp only [laws_markIntS.l0]
    rw [if_pos (by omega), if_pos (by omega), Int.toNat_natCast, w64 (x := m0 + (j : Int) + 1) (by omega) (by omega), w64s (by omega)]
theorem mark_ev (xs : List Int) (m : Int) (hm : 0 ≤ m) (hl : m + xs.length ≤ 1099511627776) : Ev (fun k => laws_markIntS.f k xs m) (m + xs.length, upFrom xs.length m) := by
  have h := markIntS_l0 xs.length m hm hl xs.length 0 xs rfl (fun i _ hi => absurd hi (Nat.not_lt_zero _)) (by omega) (by omega)
  rw [show m + ((0 : Nat) : Int) = m by omega] at h
  exact h
theorem heldIntS_l0 (n : Nat) (m0 : Int) (hm0 : 0 ≤ m0) (hm : m0 + n ≤ 1099511627776) (d : Nat) : ∀ (j : Nat), j ≤ n → n - j = d → Ev (fun k => laws_heldIntS.l0 k (upFrom n m0) (m0 + j) (j : Int)) (m0 + n) := by
  induction d with
  | zero =>
    intro j hj hd
    obtain rfl : j = n := by omega
    refine Ev.step (fun k => ?_) (Ev.now _)
    simp only [laws_heldIntS.l0]
    rw [if_neg (by rw [upFrom_len]; omega)]
  | succ d ih =>
    intro j hj hd
    have h := ih (j + 1) (by omega) (by omega)
    rw [show m0 + ((j + 1 : Nat) : Int) = m0 + (j : Int) + 1 by omega] at h
    refine Ev.step (fun k => ?_) h
    simp only [laws_heldIntS.l0]
    rw [if_pos (by rw [upFrom_len]; omega), if_pos (by omega), upFrom_rd n m0 j (by omega), if_pos rfl, w64 (x := m0 + (j : Int) + 1) (by omega) (by omega), w64s (by omega)]
theorem held_ev (n : Nat) (m : Int) (hm : 0 ≤ m) (hl : m + n ≤ 1099511627776) : Ev (fun k => laws_heldIntS.f k (upFrom n m) m) (m + n) := by
  have h := heldIntS_l0 n m hm hl n 0 (by omega) (by omega)
  rw [show m + ((0 : Nat) : Int) = m by omega] at h
  exact h

theorem code_loops (k : Nat) : ∀ x1 x2 x7 x8, impl_code.l0 k x1 x2 x7 x8 = spec_bxCode.l0 k x1 x2 x7 x8 := by
  induction k with
  | zero => intros; rfl
  | succ k ih => intro x1 x2 x7 x8; simp only [impl_code.l0, spec_bxCode.l0, ih]
theorem code_same (k : Nat) (a b c : Int) : impl_code.f k a b c = spec_bxCode.f k a b c := by
  unfold impl_code.f spec_bxCode.f
  simp only [code_loops]
theorem code_ends (r : Int) (hr : 1 ≤ r) (hr2 : r ≤ 20) (d : Nat) : ∀ (i w : Int) (xs : List Int), i + 1 = d → i < xs.length → xs.length ≤ 1000 → ∃ ys : List Int, ys.length = xs.length ∧ Ev (fun k => spec_bxCode.l0 k r w xs i) ys := by
  induction d with
  | zero => intro i w xs hi hl _; exact ⟨xs, rfl, Ev.step (fun k => by simp only [spec_bxCode.l0]; rw [if_neg (by omega)]) (Ev.now _)⟩
  | succ d ih =>
    intro i w xs hi hl hb
    obtain ⟨ys, h1, h2⟩ := ih (i - 1) (wrap64 (Int.tdiv w (r + 1))) (xs.set i.toNat (Int.tmod w (r + 1))) (by omega) (by rw [List.length_set]; omega) (by rw [List.length_set]; exact hb)
    refine ⟨ys, by simpa using h1, Ev.step (fun k => ?_) h2⟩
    simp only [spec_bxCode.l0]
    rw [if_pos (by omega), w64 (x := r + 1) (by omega) (by omega), if_neg (by omega), if_pos (by omega), if_pos hl, w64 (x := i - 1) (by omega) (by omega)]
theorem code_ev (t r w : Int) (ht : 1 ≤ t) (ht2 : t ≤ 20) (hr : 1 ≤ r) (hr2 : r ≤ 20) : ∃ ys : List Int, ys.length ≤ 20 ∧ Ev (fun k => spec_bxCode.f k t r w) ys ∧ Ev (fun k => impl_code.f k t r w) ys := by
  obtain ⟨n, rfl⟩ := Int.eq_ofNat_of_zero_le (show 0 ≤ t by omega)
  obtain ⟨ys, h1, h2⟩ := code_ends r hr hr2 n ((n : Int) - 1) w (List.replicate n 0) (by omega) (by rw [List.length_replicate]; omega) (by rw [List.length_replicate]; omega)
  have h3 : Ev (fun k => spec_bxCode.f k (n : Int) r w) ys := by
    unfold spec_bxCode.f
    rw [Int.toNat_natCast, w64 (x := (n : Int) - 1) (by omega) (by omega)]
    exact ev_if (by omega) (ev_if (by omega) h2)
  refine ⟨ys, by rw [h1, List.length_replicate]; omega, h3, ?_⟩
  simp only [code_same]
  exact h3
theorem FnExactCodeOfPraline : laws_FnExactCodeOfPraline.Pure := by
  intro p t r w _ _ _ _
  apply Ev.rounds (r := true)
  have key : ∃ (L : List Int) (b : Bool), L.length ≤ 20 ∧ Ev (fun k => spec_CodeOfPraline.f k p t r w) (L, b) ∧ Ev (fun k => impl_CodeOfPraline.f k p t r w) (L, b) := by
    unfold spec_CodeOfPraline.f impl_CodeOfPraline.f
    obtain ⟨b, h1, h2, h3⟩ := found_both p t r
    simp only [within_l1In, l1In_eq, Option.bind_some, decide_eq_true_eq]
    cases b with
    | true =>
      obtain ⟨g1, g2, g3, g4, g5, g6⟩ := h3 rfl
      by_cases g : 0 ≤ w ∧ w ≤ wrap64 (p - 1)
      · obtain ⟨ys, e0, e1, e2⟩ := code_ev t r w g3 g4 g5 g6
        exact ⟨ys, true, e0, Ev.bind h1 (ev_if rfl (ev_if g (Ev.bind e1 (Ev.now _)))), Ev.bind h2 (ev_if rfl (ev_if g (Ev.bind e2 (Ev.now _))))⟩
      · exact ⟨[], false, by simp, Ev.bind h1 (ev_if rfl (ev_else g (Ev.now _))), Ev.bind h2 (ev_if rfl (ev_else g (Ev.now _)))⟩
    | false => exact ⟨[], false, by simp, Ev.bind h1 (ev_else (by simp) (Ev.now _)), Ev.bind h2 (ev_else (by simp) (Ev.now _))⟩
  obtain ⟨L, b, hl, hs, hi⟩ := key
  have hm := mark_ev L 1 (by omega) (by omega)
  have hh := held_ev L.length 1 (by omega) (by omega)
  unfold laws_FnExactCodeOfPraline.f
  refine Ev.bind hs (Ev.bind hi (Ev.bind (eqIntS_self L (by omega)) (ev_if rfl ?_)))
  refine Ev.step (fun k => by simp only [laws_FnExactCodeOfPraline.j0]; rfl) (ev_else (by simp) (Ev.bind hm (Ev.bind hh (ev_else (show ¬ (1 + (L.length : Int)) < 0 by omega) (ev_if rfl (Ev.bind hi (Ev.bind (eqIntS_self L (by omega)) (ev_if rfl ?_))))))))
  exact Ev.step (fun k => by simp only [laws_FnExactCodeOfPraline.j1]; rfl) (ev_else (by simp) (Ev.bind hh (ev_else (show ¬ (1 + (L.length : Int)) < 0 by omega) (ev_if rfl (Ev.now _)))))

end Go.Proofs.Ytipgbhjioffbnaa.Pure
