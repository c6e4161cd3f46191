/- For all arguments (a code of at most 1048576 numbers; for longer ones the law answers true by its own guard) the program's PralineOfCode returns what the reference's PralineOfCode returns, and leaves its argument as it was. No condition. -/
import Derived.Test.YtghfhcmjnpjgdaaP6
namespace Go.Proofs.Ytghfhcmjnpjgdaa.Pure
open Go.RowKit Go.Proofs.Ytghfhcmjnpjgdaa.P Go.Proofs.YtghfhcmjnpjgdaaW.PrintWords Go.Proofs.YtghfhcmjnpjgdaaW.PrintLast
set_option linter.unusedVariables false
set_option linter.unusedSimpArgs false

theorem w64 {x : Int} (h0 : -9223372036854775808 ≤ x) (h1 : x ≤ 9223372036854775807) : wrap64 x = x := by
  unfold wrap64
  omega
theorem wf_i64 {x : Int} (h : (Lit.int .i64 x).wf = true) : -9223372036854775808 ≤ x ∧ x ≤ 9223372036854775807 := by
  have hmin : IntKind.i64.min = -9223372036854775808 := rfl
  have hmax : IntKind.i64.max = 9223372036854775807 := rfl
  simp only [Lit.wf, Bool.and_eq_true, decide_eq_true_eq] at h
  omega

theorem two {α β : Type} {g : Nat → Option α} {f : Nat → Option β} {a : α} {b : β} (h : Ev g a) (h' : Ev f b) : ∃ k, g k = some a ∧ f k = some b := by
  obtain ⟨K, h⟩ := h
  obtain ⟨K', h'⟩ := h'
  exact ⟨max K K', h _ (by omega), h' _ (by omega)⟩
theorem str_app (xs ys : List Int) : strOfNums (xs ++ ys) = strOfNums xs ++ strOfNums ys := by
  apply ByteArray.ext
  simp [strOfNums]
theorem str_nil : strOfNums [] = (⟨#[]⟩ : ByteArray) := rfl
theorem str_size (xs : List Int) : (strOfNums xs).size = xs.length := by simp [strOfNums, ByteArray.size]
theorem ba_nil_app (b : ByteArray) : (⟨#[]⟩ : ByteArray) ++ b = b := by
  apply ByteArray.ext
  simp
theorem ba_app_nil (b : ByteArray) : b ++ (⟨#[]⟩ : ByteArray) = b := by
  apply ByteArray.ext
  simp
theorem ba_assoc (a b c : ByteArray) : a ++ b ++ c = a ++ (b ++ c) := by
  apply ByteArray.ext
  simp
theorem ev_if {α : Type} {c : Prop} [Decidable c] {g f : Nat → Option α} {r : α} (hc : c) (h : Ev g r) : Ev (fun k => if c then g k else f k) r :=
  Ev.congr (fun k => if_pos hc) h
theorem ev_else {α : Type} {c : Prop} [Decidable c] {g f : Nat → Option α} {r : α} (hc : ¬ c) (h : Ev f r) : Ev (fun k => if c then g k else f k) r :=
  Ev.congr (fun k => if_neg hc) h
theorem ev_bind {α β : Type} {a : α} {o : Option α} {f : Nat → α → Option β} {r : β} (h : o = some a) (k : Ev (fun n => f n a) r) : Ev (fun n => o.bind (f n)) r :=
  Ev.congr (fun n => by rw [h]; rfl) k

theorem l1In_eq (a b c : Int) : spec_l1In.f a b c = some (decide (b ≤ a ∧ a ≤ c)) := by
  unfold spec_l1In.f
  by_cases h : b ≤ a
  · rw [if_pos (show a ≥ b from h)]; simp [h]
  · rw [if_neg (show ¬ a ≥ b from h)]; simp [h]
theorem within_eq (a b c : Int) : impl_within.f a b c = some (decide (b ≤ a ∧ a ≤ c)) := by
  unfold impl_within.f
  by_cases h : b ≤ a
  · rw [if_pos h]; simp [h]
  · rw [if_neg h]; simp [h]
theorem within_l1In (a b c : Int) : impl_within.f a b c = spec_l1In.f a b c := by rw [within_eq, l1In_eq]

/-- For how many t tasters with r rounds are enough, m being reached so far, at most 1000000. -/
def rm (r : Int) : Nat → Int → Int
  | 0, m => mn m 1000000
  | t + 1, m => rm r t (m * (r + 1))
theorem mn_le (a b : Int) : mn a b ≤ b ∧ mn a b ≤ a ∧ (mn a b = a ∨ mn a b = b) := by
  unfold mn
  split
  · refine ⟨by omega, by omega, .inr rfl⟩
  · refine ⟨by omega, by omega, .inl rfl⟩
theorem mul_le' {a b c d : Int} (h1 : a ≤ b) (h2 : c ≤ d) (h3 : 0 ≤ c) (h4 : 0 ≤ b) : a * c ≤ b * d :=
  Int.le_trans (Int.mul_le_mul_of_nonneg_right h1 h3) (Int.mul_le_mul_of_nonneg_left h2 h4)
theorem rm_big (r : Int) (hr : 0 ≤ r) (t : Nat) : ∀ m : Int, 1000000 ≤ m → rm r t m = 1000000 := by
  induction t with
  | zero => intro m hm; show mn m 1000000 = 1000000; unfold mn; split <;> omega
  | succ t ih =>
    intro m hm
    refine ih _ ?_
    have := mul_le' (a := m) (b := m) (c := 1) (d := r + 1) (by omega) (by omega) (by omega) (by omega)
    omega
theorem rm_mono (t : Nat) : ∀ (r r' m m' : Int), 0 ≤ r → r ≤ r' → 0 ≤ m → m ≤ m' → rm r t m ≤ rm r' t m' := by
  induction t with
  | zero => intro r r' m m' h1 h2 h3 h4; show mn m 1000000 ≤ mn m' 1000000; unfold mn; split <;> split <;> omega
  | succ t ih =>
    intro r r' m m' h1 h2 h3 h4
    exact ih r r' _ _ h1 h2 (Int.mul_nonneg h3 (by omega)) (mul_le' h4 (by omega) (by omega) (by omega))
theorem rm_range (r : Int) (hr : 0 ≤ r) (t : Nat) : ∀ m : Int, 1 ≤ m → 1 ≤ rm r t m ∧ rm r t m ≤ 1000000 := by
  induction t with
  | zero => intro m hm; show 1 ≤ mn m 1000000 ∧ mn m 1000000 ≤ 1000000; unfold mn; split <;> omega
  | succ t ih =>
    intro m hm
    refine ih _ ?_
    have := mul_le' (a := 1) (b := m) (c := 1) (d := r + 1) hm (by omega) (by omega) (by omega)
    omega
theorem least_eq (a b : Int) : spec_l1Least.f a b = some (mn a b) := by
  unfold spec_l1Least.f mn
  by_cases h : a < b
  · rw [if_pos h, if_neg (by omega)]
  · by_cases h2 : b < a
    · rw [if_neg h, if_pos h2]
    · rw [if_neg h, if_neg h2]; rw [show b = a by omega]
theorem bxRoom_l0 (r : Int) (hr : 0 ≤ r) (hr2 : r ≤ 1000000) (t : Nat) : t ≤ 1048576 → ∀ m : Int, 1 ≤ m → m ≤ 2000000000000 → Ev (fun k => spec_bxRoom.l0 k (t : Int) r m) (rm r t m) := by
  induction t with
  | zero =>
    intro _ m h1 h2
    refine Ev.step (f := fun _ => some (mn m 1000000)) (fun k => ?_) (Ev.now _)
    simp only [spec_bxRoom.l0]
    rw [if_neg (by omega), least_eq]; rfl
  | succ t ih =>
    intro ht m h1 h2
    by_cases hm : m < 1000000
    · have b1 := mul_le' (a := 1) (b := m) (c := 1) (d := r + 1) h1 (by omega) (by omega) (by omega)
      have b2 := mul_le' (a := m) (b := 1000000) (c := r + 1) (d := 1000001) (by omega) (by omega) (by omega) (by omega)
      refine Ev.step (f := fun k => spec_bxRoom.l0 k (t : Int) r (m * (r + 1))) (fun k => ?_) (ih (by omega) (m * (r + 1)) (by omega) (by omega))
      simp only [spec_bxRoom.l0]
      rw [if_pos (by omega), if_pos hm, w64 (x := r + 1) (by omega) (by omega), w64 (x := m * (r + 1)) (by omega) (by omega), w64 (by omega) (by omega), show ((t + 1 : Nat) : Int) - 1 = (t : Int) by omega]
    · rw [rm_big r hr (t + 1) m (by omega)]
      refine Ev.step (f := fun _ => some 1000000) (fun k => ?_) (Ev.now _)
      simp only [spec_bxRoom.l0]
      rw [if_pos (by omega), if_neg hm, least_eq]
      have : mn m 1000000 = 1000000 := by unfold mn; split <;> omega
      rw [this]; rfl
theorem bxRoom_ev (t : Nat) (r : Int) (ht : t ≤ 1048576) (hr : 0 ≤ r) (hr2 : r ≤ 1000000) : Ev (fun k => spec_bxRoom.f k (t : Int) r) (rm r t 1) := bxRoom_l0 r hr hr2 t ht 1 (by omega) (by omega)
theorem product_l0 (n : Int) (hn : 1 ≤ n) (hn2 : n ≤ 1000001) (t : Nat) (ht : t ≤ 1048576) (d : Nat) : ∀ (i : Nat) (out : Int), t - i = d → i ≤ t → 1 ≤ out → out ≤ 1000000 →
    ∃ p, Ev (fun k => impl_product.l0 k 1000000 out (List.replicate t n) ((List.replicate t n).length : Int) (i : Int)) p ∧ mn p 1000000 = rm (n - 1) d out := by
  induction d with
  | zero =>
    intro i out hd hi h1 h2
    refine ⟨out, Ev.step (f := fun _ => some out) (fun k => ?_) (Ev.now _), rfl⟩
    simp only [impl_product.l0]
    rw [if_neg (by simp; omega)]
  | succ d ih =>
    intro i out hd hi h1 h2
    have hit : i < t := by omega
    have hrd : rd (List.replicate t n) (i : Int) = n := by simp [rd, List.getD_eq_getElem?_getD, List.getElem?_replicate, hit]
    have e0 : wrap64 (Int.tdiv 1000000 n) = 1000000 / n := by
      rw [Int.tdiv_eq_ediv_of_nonneg (by omega)]
      have q1 : 0 ≤ (1000000 : Int) / n := Int.ediv_nonneg (by omega) (by omega)
      have q2 : (1000000 : Int) / n ≤ 1000000 := Int.ediv_le_self _ (by omega)
      exact w64 (by omega) (by omega)
    have hstep : ∀ k, impl_product.l0 (k + 1) 1000000 out (List.replicate t n) ((List.replicate t n).length : Int) (i : Int) =
        if out > 1000000 / n then some 1000001 else impl_product.l0 k 1000000 (wrap64 (out * n)) (List.replicate t n) ((List.replicate t n).length : Int) ((i + 1 : Nat) : Int) := by
      intro k
      simp only [impl_product.l0]
      rw [if_pos (by simp; omega), if_pos (by omega), if_pos (by simp; omega), hrd, if_pos (by omega), if_neg (by omega), e0]
      rw [w64 (x := (i : Int) + 1) (by omega) (by omega), show wrap64 (1000000 + 1) = 1000001 from w64 (by omega) (by omega), show (i : Int) + 1 = ((i + 1 : Nat) : Int) by omega]
    by_cases hbig : out > 1000000 / n
    · have hlt : 1000000 < out * n := Int.lt_mul_of_ediv_lt (by omega) hbig
      refine ⟨1000001, Ev.step (f := fun _ => some 1000001) (fun k => by rw [hstep k, if_pos hbig]) (Ev.now _), ?_⟩
      show mn 1000001 1000000 = rm (n - 1) d (out * (n - 1 + 1))
      rw [show n - 1 + 1 = n by omega, rm_big (n - 1) (by omega) d _ (by omega)]; rfl
    · have hle : out * n ≤ 1000000 := by
        have h := Int.mul_le_of_le_ediv (c := n) (a := out) (b := 1000000) (by omega) (by omega)
        omega
      have hlo := mul_le' (a := 1) (b := out) (c := 1) (d := n) h1 hn (by omega) (by omega)
      obtain ⟨p, hp, hq⟩ := ih (i + 1) (out * n) (by omega) (by omega) (by omega) hle
      refine ⟨p, Ev.step (fun k => by rw [hstep k, if_neg hbig, w64 (by omega) (by omega)]) hp, ?_⟩
      rw [hq]
      show rm (n - 1) d (out * n) = rm (n - 1) d (out * (n - 1 + 1))
      rw [show n - 1 + 1 = n by omega]
theorem enough_ev (t : Nat) (r : Int) (ht : t ≤ 1048576) (hr : 0 ≤ r) (hr2 : r ≤ 1000000) : Ev (fun k => impl_enough.f k (t : Int) r) (rm r t 1) := by
  obtain ⟨p, hp, hq⟩ := product_l0 (r + 1) (by omega) (by omega) t ht t 0 1 (by omega) (by omega) (by omega) (by omega)
  rw [show r + 1 - 1 = r by omega] at hq
  unfold impl_enough.f
  rw [w64 (x := r + 1) (by omega) (by omega)]
  refine ev_bind (a := List.replicate t (r + 1)) ?_ (Ev.bind (a := p) hp ?_)
  · unfold slices_Repeat_int_int.f
    rw [if_pos (show [r + 1].length = 1 from rfl), if_pos (by omega), if_pos (by omega)]
    simp
  · rw [← hq]; exact Ev.now _
theorem both_eq (t r : Int) : spec_bxBoth.f t r = some (decide ((1 ≤ t ∧ t ≤ 20) ∧ 1 ≤ r ∧ r ≤ 20)) := by
  unfold spec_bxBoth.f
  simp only [l1In_eq, Option.bind_some]
  by_cases h : 1 ≤ t ∧ t ≤ 20
  · simp [h]
  · simp [h]
theorem areTasters_eq (t r : Int) : impl_areTasters.f t r = spec_bxBoth.f t r := by
  unfold impl_areTasters.f spec_bxBoth.f
  simp only [within_l1In]
theorem room_both (t r : Int) (h : 0 ≤ t) (h2 : t ≤ 1048576) (hr : 0 ≤ r) (hr2 : r ≤ 1000000) : Ev (fun k => spec_bxRoom.f k t r) (rm r t.toNat 1) ∧ Ev (fun k => impl_enough.f k t r) (rm r t.toNat 1) := by
  obtain ⟨n, rfl⟩ := Int.eq_ofNat_of_zero_le h
  exact ⟨bxRoom_ev n r (by omega) hr hr2, enough_ev n r (by omega) hr hr2⟩

theorem pralines_eq (a : Int) : spec_bxPralines.f a = some (decide (1 ≤ a ∧ a ≤ 1000000)) := by
  unfold spec_bxPralines.f
  rw [l1In_eq]; rfl
theorem arePralines_eq (a : Int) : impl_arePralines.f a = some (decide (1 ≤ a ∧ a ≤ 1000000)) := by
  unfold impl_arePralines.f
  rw [within_eq]; rfl

theorem found_both (p t r : Int) : ∃ b : Bool, Ev (fun k => spec_bxEnough.f k p t r) b ∧ Ev (fun k => impl_areFound.f k p t r) b ∧ (b = true → 1 ≤ p ∧ p ≤ 1000000 ∧ 1 ≤ t ∧ t ≤ 20 ∧ 1 ≤ r ∧ r ≤ 20) := by
  unfold spec_bxEnough.f impl_areFound.f
  rw [pralines_eq, arePralines_eq, areTasters_eq, both_eq]
  simp only [Option.bind_some, decide_eq_true_eq]
  by_cases g : 1 ≤ p ∧ p ≤ 1000000
  · by_cases g2 : (1 ≤ t ∧ t ≤ 20) ∧ 1 ≤ r ∧ r ≤ 20
    · obtain ⟨h1, h2⟩ := room_both t r (by omega) (by omega) (by omega) (by omega)
      exact ⟨decide (p ≤ rm r t.toNat 1), ev_if g (ev_if g2 (Ev.bind h1 (Ev.now _))), ev_if g (ev_if g2 (Ev.bind h2 (Ev.now _))), fun _ => by omega⟩
    · exact ⟨false, ev_if g (ev_else g2 (Ev.now _)), ev_if g (ev_else g2 (Ev.now _)), fun h => by cases h⟩
  · exact ⟨false, ev_else g (Ev.now _), ev_else g (Ev.now _), fun h => by cases h⟩

theorem rd_nat (xs : List Int) (j : Nat) (h : j < xs.length) : rd xs (j : Int) = xs[j] := by
  simp [rd, List.getD_eq_getElem?_getD, List.getElem?_eq_getElem h]
theorem w64s {j : Nat} (h : j < 9223372036854775807) : wrap64 ((j : Int) + 1) = ((j + 1 : Nat) : Int) := by
  rw [w64 (by omega) (by omega)]; omega
theorem toIntS_l0 (xs : List Int) (hx : xs.length ≤ 1048576) (d : Nat) : ∀ (j : Nat) (ys : List Int), ys.length = xs.length → (∀ i (h : i < ys.length) (h' : i < xs.length), i < j → ys[i] = xs[i]) → j ≤ xs.length → xs.length - j = d →
    Ev (fun k => laws_toIntS.l0 k xs ys (j : Int)) xs := by
  induction d with
  | zero =>
    intro j ys hl hv hj hd
    have e : ys = xs := List.ext_getElem hl (fun i h h' => hv i h h' (by omega))
    subst e
    exact Ev.step (fun k => by simp only [laws_toIntS.l0]; rw [if_neg (by omega)]) (Ev.now _)
  | succ d ih =>
    intro j ys hl hv hj hd
    have hj' : j < xs.length := by omega
    refine Ev.step (f := fun k => laws_toIntS.l0 k xs (ys.set j xs[j]) ((j + 1 : Nat) : Int)) (fun k => ?_) (ih (j + 1) (ys.set j xs[j]) (by simp [hl]) ?_ (by omega) (by omega))
    · simp only [laws_toIntS.l0]
      rw [if_pos (by omega), if_pos (by omega), if_pos (by omega), rd_nat xs j hj', Int.toNat_natCast, w64s (by omega)]
    · intro i h h' hi
      rw [List.getElem_set]
      by_cases e : j = i
      · subst e; simp
      · rw [if_neg e]; exact hv i (by simpa using h) h' (by omega)
theorem toIntS_ev (xs : List Int) (hx : xs.length ≤ 1048576) : Ev (fun k => laws_toIntS.f k xs) xs := by
  unfold laws_toIntS.f
  refine ev_if (by omega) (ev_if (by omega) ?_)
  rw [Int.toNat_natCast]
  exact toIntS_l0 xs hx xs.length 0 _ (by simp) (fun i h h' hi => absurd hi (Nat.not_lt_zero _)) (by omega) (by omega)
theorem eqIntS_l0 (xs ys : List Int) (hl : xs.length = ys.length) (hx : xs.length ≤ 1099511627776) (d : Nat) : ∀ (j : Nat), (∀ i (h : i < xs.length) (h' : i < ys.length), i < j → xs[i] = ys[i]) → j ≤ xs.length → xs.length - j = d →
    Ev (fun k => laws_eqIntS.l0 k xs ys (j : Int)) (decide (xs = ys)) := by
  induction d with
  | zero =>
    intro j hv hj hd
    have e : xs = ys := List.ext_getElem hl (fun i h h' => hv i h h' (by omega))
    refine Ev.step (fun k => by simp only [laws_eqIntS.l0]; rw [if_neg (by omega)]) ?_
    simpa [e] using Ev.now true
  | succ d ih =>
    intro j hv hj hd
    have hj1 : j < xs.length := by omega
    have hj2 : j < ys.length := by omega
    by_cases e : xs[j] = ys[j]
    · refine Ev.step (f := fun k => laws_eqIntS.l0 k xs ys ((j + 1 : Nat) : Int)) (fun k => ?_) (ih (j + 1) ?_ (by omega) (by omega))
      · simp only [laws_eqIntS.l0]
        rw [if_pos (by omega), if_pos (by omega), if_pos (by omega), rd_nat xs j hj1, rd_nat ys j hj2, if_pos e, w64s (by omega)]
      · intro i h h' hi
        by_cases e2 : i = j
        · subst e2; exact e
        · exact hv i h h' (by omega)
    · have hne : decide (xs = ys) = false := by
        simp only [decide_eq_false_iff_not]
        rintro rfl
        exact e rfl
      rw [hne]
      refine Ev.step (fun k => ?_) (Ev.now false)
      simp only [laws_eqIntS.l0]
      rw [if_pos (by omega), if_pos (by omega), if_pos (by omega), rd_nat xs j hj1, rd_nat ys j hj2, if_neg e]
theorem eqIntS_ev (xs ys : List Int) (hx : xs.length ≤ 1099511627776) : Ev (fun k => laws_eqIntS.f k xs ys) (decide (xs = ys)) := by
  unfold laws_eqIntS.f
  by_cases h : xs.length = ys.length
  · refine ev_if (by omega) ?_
    exact eqIntS_l0 xs ys h hx xs.length 0 (fun i _ _ hi => absurd hi (Nat.not_lt_zero _)) (by omega) (by omega)
  · refine ev_else (by omega) ?_
    have hne : decide (xs = ys) = false := by
      simp only [decide_eq_false_iff_not]
      rintro rfl
      exact h rfl
    rw [hne]
    exact Ev.now false
theorem eqIntS_self (xs : List Int) (hx : xs.length ≤ 1099511627776) : Ev (fun k => laws_eqIntS.f k xs xs) true := by
  have := eqIntS_ev xs xs hx
  simpa using this

theorem l1All_l0 (lo hi : Int) (xs : List Int) (hx : xs.length ≤ 1099511627776) (d : Nat) : ∀ (j : Nat), (∀ i (h : i < xs.length), i < j → lo ≤ xs[i] ∧ xs[i] ≤ hi) → j ≤ xs.length → xs.length - j = d →
    Ev (fun k => spec_l1All.l0 k lo hi xs (xs.length : Int) (j : Int)) (xs.all fun x => decide (lo ≤ x ∧ x ≤ hi)) := by
  induction d with
  | zero =>
    intro j hv hj hd
    have e : (xs.all fun x => decide (lo ≤ x ∧ x ≤ hi)) = true := by
      rw [List.all_eq_true]
      intro x hm
      obtain ⟨i, hi2, rfl⟩ := List.getElem_of_mem hm
      exact decide_eq_true (hv i hi2 (by omega))
    rw [e]
    exact Ev.step (fun k => by simp only [spec_l1All.l0]; rw [if_neg (by omega)]) (Ev.now _)
  | succ d ih =>
    intro j hv hj hd
    have hj1 : j < xs.length := by omega
    by_cases e : lo ≤ xs[j] ∧ xs[j] ≤ hi
    · refine Ev.step (f := fun k => spec_l1All.l0 k lo hi xs (xs.length : Int) ((j + 1 : Nat) : Int)) (fun k => ?_) (ih (j + 1) ?_ (by omega) (by omega))
      · simp only [spec_l1All.l0]
        rw [if_pos (by omega), if_pos (by omega), if_pos (by omega), rd_nat xs j hj1, l1In_eq]
        simp only [Option.bind_some, decide_eq_true_eq]
        rw [if_pos e, w64s (by omega)]
      · intro i h hi2
        by_cases e2 : i = j
        · subst e2; exact e
        · exact hv i h (by omega)
    · have hne : (xs.all fun x => decide (lo ≤ x ∧ x ≤ hi)) = false := by
        rw [List.all_eq_false]
        exact ⟨xs[j], List.getElem_mem hj1, by simpa using e⟩
      rw [hne]
      refine Ev.step (fun k => ?_) (Ev.now false)
      simp only [spec_l1All.l0]
      rw [if_pos (by omega), if_pos (by omega), if_pos (by omega), rd_nat xs j hj1, l1In_eq]
      simp only [Option.bind_some, decide_eq_true_eq]
      rw [if_neg e]
theorem l1All_ev (lo hi : Int) (xs : List Int) (hx : xs.length ≤ 1099511627776) : Ev (fun k => spec_l1All.f k xs lo hi) (xs.all fun x => decide (lo ≤ x ∧ x ≤ hi)) :=
  l1All_l0 lo hi xs hx xs.length 0 (fun i _ hi => absurd hi (Nat.not_lt_zero _)) (by omega) (by omega)
theorem areWithin_eq (lo hi : Int) (xs : List Int) : impl_areWithin.f xs lo hi = some (xs.all fun x => decide (lo ≤ x ∧ x ≤ hi)) := by
  unfold impl_areWithin.f
  rw [List.not_any_eq_all_not]
  simp

theorem pral_same (k : Nat) : ∀ p r x xs n i, impl_PralineOfCode.l0 k p r x xs n i = spec_PralineOfCode.l0 k p r x xs n i := by
  induction k with
  | zero => intros; rfl
  | succ k ih => intro p r x xs n i; simp only [impl_PralineOfCode.l0, spec_PralineOfCode.l0, ih]
theorem pral_same0 (k : Nat) (p r : Int) (xs : List Int) (b : Bool) : impl_PralineOfCode.j0 k p r xs b = spec_PralineOfCode.j0 k p r xs b := by
  cases k with
  | zero => rfl
  | succ k => simp only [impl_PralineOfCode.j0, spec_PralineOfCode.j0, pral_same]
theorem pral_l0 (p r : Int) (xs : List Int) (hx : xs.length ≤ 1048576) (d : Nat) : ∀ (x : Int) (j : Nat), j ≤ xs.length → xs.length - j = d →
    ∃ q, Ev (fun k => spec_PralineOfCode.l0 k p r x xs (xs.length : Int) (j : Int)) q := by
  induction d with
  | zero =>
    intro x j h1 h2
    refine ⟨(x, true), Ev.step (fun k => ?_) (Ev.now _)⟩
    simp only [spec_PralineOfCode.l0]
    rw [if_neg (by omega)]
  | succ d ih =>
    intro x j h1 h2
    by_cases g : wrap64 (wrap64 (x * wrap64 (r + 1)) + rd xs (j : Int)) ≥ p
    · refine ⟨(0, false), Ev.step (fun k => ?_) (Ev.now _)⟩
      simp only [spec_PralineOfCode.l0]
      rw [if_pos (by omega), if_pos (by omega), if_pos (by omega), if_pos g]
    · obtain ⟨q, hq⟩ := ih (wrap64 (wrap64 (x * wrap64 (r + 1)) + rd xs (j : Int))) (j + 1) (by omega) (by omega)
      refine ⟨q, Ev.step (fun k => ?_) hq⟩
      simp only [spec_PralineOfCode.l0]
      rw [if_pos (by omega), if_pos (by omega), if_pos (by omega), if_neg g, w64s (by omega)]
theorem pral_j0 (p r : Int) (xs : List Int) (hx : xs.length ≤ 1048576) (b : Bool) : ∃ q, Ev (fun k => spec_PralineOfCode.j0 k p r xs b) q ∧ Ev (fun k => impl_PralineOfCode.j0 k p r xs b) q := by
  have h : ∃ q, Ev (fun k => spec_PralineOfCode.j0 k p r xs b) q := by
    by_cases g : b = true
    · exact ⟨(0, false), Ev.step (fun k => by simp only [spec_PralineOfCode.j0]; rw [if_pos g]) (Ev.now _)⟩
    · obtain ⟨q, hq⟩ := pral_l0 p r xs hx xs.length 0 0 (by omega) (by omega)
      exact ⟨q, Ev.step (fun k => by simp only [spec_PralineOfCode.j0]; rw [if_neg g]; rfl) hq⟩
  obtain ⟨q, hq⟩ := h
  refine ⟨q, hq, ?_⟩
  simp only [pral_same0]
  exact hq
theorem FnExactPralineOfCode : laws_FnExactPralineOfCode.Pure := by
  intro p t r xs _ _ _ _ _ _
  apply Ev.rounds (r := true)
  unfold laws_FnExactPralineOfCode.f
  by_cases hx0 : (xs.length : Int) > 1048576
  · exact ev_if hx0 (Ev.now _)
  refine ev_else hx0 ?_
  have hx : xs.length ≤ 1048576 := by omega
  have key : ∃ q, Ev (fun k => spec_PralineOfCode.f k p t r xs) q ∧ Ev (fun k => impl_PralineOfCode.f k p t r xs) q := by
    unfold spec_PralineOfCode.f impl_PralineOfCode.f
    obtain ⟨b, h1, h2, h3⟩ := found_both p t r
    simp only [areWithin_eq, Option.bind_some]
    cases b with
    | true =>
      by_cases g : (xs.length : Int) = t
      · obtain ⟨q, e1, e2⟩ := pral_j0 p r xs hx (!(xs.all fun x => decide (0 ≤ x ∧ x ≤ r)))
        exact ⟨q, Ev.bind h1 (ev_if rfl (ev_if g (Ev.bind (l1All_ev 0 r xs (by omega)) e1))), Ev.bind h2 (ev_if rfl (ev_if g e2))⟩
      · obtain ⟨q, e1, e2⟩ := pral_j0 p r xs hx true
        exact ⟨q, Ev.bind h1 (ev_if rfl (ev_else g e1)), Ev.bind h2 (ev_if rfl (ev_else g e2))⟩
    | false =>
      obtain ⟨q, e1, e2⟩ := pral_j0 p r xs hx true
      exact ⟨q, Ev.bind h1 (ev_else (by simp) e1), Ev.bind h2 (ev_else (by simp) e2)⟩
  obtain ⟨q, hs, hi⟩ := key
  refine Ev.bind (toIntS_ev xs hx) (Ev.bind hs (Ev.bind (toIntS_ev xs hx) (Ev.bind hi (ev_if rfl ?_))))
  exact Ev.step (fun k => by simp only [laws_FnExactPralineOfCode.j0]; rfl) (ev_else (by simp) (Ev.bind (toIntS_ev xs hx) (Ev.bind (eqIntS_self xs (by omega)) (ev_if rfl (Ev.now _)))))

end Go.Proofs.Ytghfhcmjnpjgdaa.Pure
