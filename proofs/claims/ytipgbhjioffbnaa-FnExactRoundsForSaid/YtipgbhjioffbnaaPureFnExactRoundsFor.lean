/- For all arguments the program's RoundsFor returns what the reference's RoundsFor returns. No condition. -/
import Derived.Test.YtipgbhjioffbnaaQ7
namespace Go.Proofs.Ytipgbhjioffbnaa.Pure
open Go.RowKit Go.Proofs.Ytipgbhjioffbnaa.Q Go.Proofs.YtipgbhjioffbnaaW.PrintWords Go.Proofs.YtipgbhjioffbnaaW.PrintLast
set_option linter.unusedVariables false
set_option linter.unusedSimpArgs false

theorem w64 {x : Int} (h0 : -9223372036854775808 ≤ x) (h1 : x ≤ 9223372036854775807) : wrap64 x = x := by
  unfold wrap64
  omega
theorem wf_i64 {x : Int} (h : (Lit.int .i64 x).wf = true) : -9223372036854775808 ≤ x ∧ x ≤ 9223372036854775807 := by
  have hmin : IntKind.i64.min = -9223372036854775808 := rfl
  have hmax : IntKind.i64.max = 9223372036854775807 := rfl
  simp only [Lit.wf, Bool.and_eq_true, decide_eq_true_eq] at h
  omega

theorem two {α β : Type} {g : Nat → Option α} {f : Nat → Option β} {a : α} {b : β} (h : Ev g a) (h' : Ev f b) : ∃ k, g k = some a ∧ f k = some b := by
  obtain ⟨K, h⟩ := h
  obtain ⟨K', h'⟩ := h'
  exact ⟨max K K', h _ (by omega), h' _ (by omega)⟩
theorem str_app (xs ys : List Int) : strOfNums (xs ++ ys) = strOfNums xs ++ strOfNums ys := by
  apply ByteArray.ext
  simp [strOfNums]
theorem str_nil : strOfNums [] = (⟨#[]⟩ : ByteArray) := rfl
theorem str_size (xs : List Int) : (strOfNums xs).size = xs.length := by simp [strOfNums, ByteArray.size]
theorem ba_nil_app (b : ByteArray) : (⟨#[]⟩ : ByteArray) ++ b = b := by
  apply ByteArray.ext
  simp
theorem ba_app_nil (b : ByteArray) : b ++ (⟨#[]⟩ : ByteArray) = b := by
  apply ByteArray.ext
  simp
theorem ba_assoc (a b c : ByteArray) : a ++ b ++ c = a ++ (b ++ c) := by
  apply ByteArray.ext
  simp
theorem ev_if {α : Type} {c : Prop} [Decidable c] {g f : Nat → Option α} {r : α} (hc : c) (h : Ev g r) : Ev (fun k => if c then g k else f k) r :=
  Ev.congr (fun k => if_pos hc) h
theorem ev_else {α : Type} {c : Prop} [Decidable c] {g f : Nat → Option α} {r : α} (hc : ¬ c) (h : Ev f r) : Ev (fun k => if c then g k else f k) r :=
  Ev.congr (fun k => if_neg hc) h
theorem ev_bind {α β : Type} {a : α} {o : Option α} {f : Nat → α → Option β} {r : β} (h : o = some a) (k : Ev (fun n => f n a) r) : Ev (fun n => o.bind (f n)) r :=
  Ev.congr (fun n => by rw [h]; rfl) k

theorem l1In_eq (a b c : Int) : spec_l1In.f a b c = some (decide (b ≤ a ∧ a ≤ c)) := by
  unfold spec_l1In.f
  by_cases h : b ≤ a
  · rw [if_pos (show a ≥ b from h)]; simp [h]
  · rw [if_neg (show ¬ a ≥ b from h)]; simp [h]
theorem within_eq (a b c : Int) : impl_within.f a b c = some (decide (b ≤ a ∧ a ≤ c)) := by
  unfold impl_within.f
  by_cases h : b ≤ a
  · rw [if_pos h]; simp [h]
  · rw [if_neg h]; simp [h]
theorem within_l1In (a b c : Int) : impl_within.f a b c = spec_l1In.f a b c := by rw [within_eq, l1In_eq]

/-- For how many t tasters with r rounds are enough, m being reached so far, at most 1000000. -/
def rm (r : Int) : Nat → Int → Int
  | 0, m => mn m 1000000
  | t + 1, m => rm r t (m * (r + 1))
theorem mn_le (a b : Int) : mn a b ≤ b ∧ mn a b ≤ a ∧ (mn a b = a ∨ mn a b = b) := by
  unfold mn
  split
  · refine ⟨by omega, by omega, .inr rfl⟩
  · refine ⟨by omega, by omega, .inl rfl⟩
theorem mul_le' {a b c d : Int} (h1 : a ≤ b) (h2 : c ≤ d) (h3 : 0 ≤ c) (h4 : 0 ≤ b) : a * c ≤ b * d :=
  Int.le_trans (Int.mul_le_mul_of_nonneg_right h1 h3) (Int.mul_le_mul_of_nonneg_left h2 h4)
theorem rm_big (r : Int) (hr : 0 ≤ r) (t : Nat) : ∀ m : Int, 1000000 ≤ m → rm r t m = 1000000 := by
  induction t with
  | zero => intro m hm; show mn m 1000000 = 1000000; unfold mn; split <;> omega
  | succ t ih =>
    intro m hm
    refine ih _ ?_
    have := mul_le' (a := m) (b := m) (c := 1) (d := r + 1) (by omega) (by omega) (by omega) (by omega)
    omega
theorem rm_mono (t : Nat) : ∀ (r r' m m' : Int), 0 ≤ r → r ≤ r' → 0 ≤ m → m ≤ m' → rm r t m ≤ rm r' t m' := by
  induction t with
  | zero => intro r r' m m' h1 h2 h3 h4; show mn m 1000000 ≤ mn m' 1000000; unfold mn; split <;> split <;> omega
  | succ t ih =>
    intro r r' m m' h1 h2 h3 h4
    exact ih r r' _ _ h1 h2 (Int.mul_nonneg h3 (by omega)) (mul_le' h4 (by omega) (by omega) (by omega))
theorem rm_range (r : Int) (hr : 0 ≤ r) (t : Nat) : ∀ m : Int, 1 ≤ m → 1 ≤ rm r t m ∧ rm r t m ≤ 1000000 := by
  induction t with
  | zero => intro m hm; show 1 ≤ mn m 1000000 ∧ mn m 1000000 ≤ 1000000; unfold mn; split <;> omega
  | succ t ih =>
    intro m hm
    refine ih _ ?_
    have := mul_le' (a := 1) (b := m) (c := 1) (d := r + 1) hm (by omega) (by omega) (by omega)
    omega
theorem least_eq (a b : Int) : spec_l1Least.f a b = some (mn a b) := by
  unfold spec_l1Least.f mn
  by_cases h : a < b
  · rw [if_pos h, if_neg (by omega)]
  · by_cases h2 : b < a
    · rw [if_neg h, if_pos h2]
    · rw [if_neg h, if_neg h2]; rw [show b = a by omega]
theorem bxRoom_l0 (r : Int) (hr : 0 ≤ r) (hr2 : r ≤ 1000000) (t : Nat) : t ≤ 1048576 → ∀ m : Int, 1 ≤ m → m ≤ 2000000000000 → Ev (fun k => spec_bxRoom.l0 k (t : Int) r m) (rm r t m) := by
  induction t with
  | zero =>
    intro _ m h1 h2
    refine Ev.step (f := fun _ => some (mn m 1000000)) (fun k => ?_) (Ev.now _)
    simp only [spec_bxRoom.l0]
    rw [if_neg (by omega), least_eq]; rfl
  | succ t ih =>
    intro ht m h1 h2
    by_cases hm : m < 1000000
    · have b1 := mul_le' (a := 1) (b := m) (c := 1) (d := r + 1) h1 (by omega) (by omega) (by omega)
      have b2 := mul_le' (a := m) (b := 1000000) (c := r + 1) (d := 1000001) (by omega) (by omega) (by omega) (by omega)
      refine Ev.step (f := fun k => spec_bxRoom.l0 k (t : Int) r (m * (r + 1))) (fun k => ?_) (ih (by omega) (m * (r + 1)) (by omega) (by omega))
      simp only [spec_bxRoom.l0]
      rw [if_pos (by omega), if_pos hm, w64 (x := r + 1) (by omega) (by omega), w64 (x := m * (r + 1)) (by omega) (by omega), w64 (by omega) (by omega), show ((t + 1 : Nat) : Int) - 1 = (t : Int) by omega]
    · rw [rm_big r hr (t + 1) m (by omega)]
      refine Ev.step (f := fun _ => some 1000000) (fun k => ?_) (Ev.now _)
      simp only [spec_bxRoom.l0]
      rw [if_pos (by omega), if_neg hm, least_eq]
      have : mn m 1000000 = 1000000 := by unfold mn; split <;> omega
      rw [this]; rfl
theorem bxRoom_ev (t : Nat) (r : Int) (ht : t ≤ 1048576) (hr : 0 ≤ r) (hr2 : r ≤ 1000000) : Ev (fun k => spec_bxRoom.f k (t : Int) r) (rm r t 1) := bxRoom_l0 r hr hr2 t ht 1 (by omega) (by omega)
theorem product_l0 (n : Int) (hn : 1 ≤ n) (hn2 : n ≤ 1000001) (t : Nat) (ht : t ≤ 1048576) (d : Nat) : ∀ (i : Nat) (out : Int), t - i = d → i ≤ t → 1 ≤ out → out ≤ 1000000 →
    ∃ p, Ev (fun k => impl_product.l0 k 1000000 out (List.replicate t n) ((List.replicate t n).length : Int) (i : Int)) p ∧ mn p 1000000 = rm (n - 1) d out := by
  induction d with
  | zero =>
    intro i out hd hi h1 h2
    refine ⟨out, Ev.step (f := fun _ => some out) (fun k => ?_) (Ev.now _), rfl⟩
    simp only [impl_product.l0]
    rw [if_neg (by simp; omega)]
  | succ d ih =>
    intro i out hd hi h1 h2
    have hit : i < t := by omega
    have hrd : rd (List.replicate t n) (i : Int) = n := by simp [rd, List.getD_eq_getElem?_getD, List.getElem?_replicate, hit]
    have e0 : wrap64 (Int.tdiv 1000000 n) = 1000000 / n := by
      rw [Int.tdiv_eq_ediv_of_nonneg (by omega)]
      have q1 : 0 ≤ (1000000 : Int) / n := Int.ediv_nonneg (by omega) (by omega)
      have q2 : (1000000 : Int) / n ≤ 1000000 := Int.ediv_le_self _ (by omega)
      exact w64 (by omega) (by omega)
    have hstep : ∀ k, impl_product.l0 (k + 1) 1000000 out (List.replicate t n) ((List.replicate t n).length : Int) (i : Int) =
        if out > 1000000 / n then some 1000001 else impl_product.l0 k 1000000 (wrap64 (out * n)) (List.replicate t n) ((List.replicate t n).length : Int) ((i + 1 : Nat) : Int) := by
      intro k
      simp only [impl_product.l0]
      rw [if_pos (by simp; omega), if_pos (by omega), if_pos (by simp; omega), hrd, if_pos (by omega), if_neg (by omega), e0]
      rw [w64 (x := (i : Int) + 1) (by omega) (by omega), show wrap64 (1000000 + 1) = 1000001 from w64 (by omega) (by omega), show (i : Int) + 1 = ((i + 1 : Nat) : Int) by omega]
    by_cases hbig : out > 1000000 / n
    · have hlt : 1000000 < out * n := Int.lt_mul_of_ediv_lt (by omega) hbig
      refine ⟨1000001, Ev.step (f := fun _ => some 1000001) (fun k => by rw [hstep k, if_pos hbig]) (Ev.now _), ?_⟩
      show mn 1000001 1000000 = rm (n - 1) d (out * (n - 1 + 1))
      rw [show n - 1 + 1 = n by omega, rm_big (n - 1) (by omega) d _ (by omega)]; rfl
    · have hle : out * n ≤ 1000000 := by
        have h := Int.mul_le_of_le_ediv (c := n) (a := out) (b := 1000000) (by omega) (by omega)
        omega
      have hlo := mul_le' (a := 1) (b := out) (c := 1) (d := n) h1 hn (by omega) (by omega)
      obtain ⟨p, hp, hq⟩ := ih (i + 1) (out * n) (by omega) (by omega) (by omega) hle
      refine ⟨p, Ev.step (fun k => by rw [hstep k, if_neg hbig, w64 (by omega) (by omega)]) hp, ?_⟩
      rw [hq]
      show rm (n - 1) d (out * n) = rm (n - 1) d (out * (n - 1 + 1))
      rw [show n - 1 + 1 = n by omega]
theorem enough_ev (t : Nat) (r : Int) (ht : t ≤ 1048576) (hr : 0 ≤ r) (hr2 : r ≤ 1000000) : Ev (fun k => impl_enough.f k (t : Int) r) (rm r t 1) := by
  obtain ⟨p, hp, hq⟩ := product_l0 (r + 1) (by omega) (by omega) t ht t 0 1 (by omega) (by omega) (by omega) (by omega)
  rw [show r + 1 - 1 = r by omega] at hq
  unfold impl_enough.f
  rw [w64 (x := r + 1) (by omega) (by omega)]
  refine ev_bind (a := List.replicate t (r + 1)) ?_ (Ev.bind (a := p) hp ?_)
  · unfold slices_Repeat_int_int.f
    rw [if_pos (show [r + 1].length = 1 from rfl), if_pos (by omega), if_pos (by omega)]
    simp
  · rw [← hq]; exact Ev.now _
theorem both_eq (t r : Int) : spec_bxBoth.f t r = some (decide ((1 ≤ t ∧ t ≤ 20) ∧ 1 ≤ r ∧ r ≤ 20)) := by
  unfold spec_bxBoth.f
  simp only [l1In_eq, Option.bind_some]
  by_cases h : 1 ≤ t ∧ t ≤ 20
  · simp [h]
  · simp [h]
theorem areTasters_eq (t r : Int) : impl_areTasters.f t r = spec_bxBoth.f t r := by
  unfold impl_areTasters.f spec_bxBoth.f
  simp only [within_l1In]
theorem room_both (t r : Int) (h : 0 ≤ t) (h2 : t ≤ 1048576) (hr : 0 ≤ r) (hr2 : r ≤ 1000000) : Ev (fun k => spec_bxRoom.f k t r) (rm r t.toNat 1) ∧ Ev (fun k => impl_enough.f k t r) (rm r t.toNat 1) := by
  obtain ⟨n, rfl⟩ := Int.eq_ofNat_of_zero_le h
  exact ⟨bxRoom_ev n r (by omega) hr hr2, enough_ev n r (by omega) hr hr2⟩

theorem pralines_eq (a : Int) : spec_bxPralines.f a = some (decide (1 ≤ a ∧ a ≤ 1000000)) := by
  unfold spec_bxPralines.f
  rw [l1In_eq]; rfl
theorem arePralines_eq (a : Int) : impl_arePralines.f a = some (decide (1 ≤ a ∧ a ≤ 1000000)) := by
  unfold impl_arePralines.f
  rw [within_eq]; rfl

theorem least_of (P : Nat → Prop) : ∀ n, P n → ∃ m, m ≤ n ∧ P m ∧ ∀ i, i < m → ¬ P i := by
  intro n
  induction n using Nat.strongRecOn with
  | _ n ih =>
    intro h
    by_cases g : ∃ i, i < n ∧ P i
    · obtain ⟨i, hi, hp⟩ := g
      obtain ⟨m, h1, h2, h3⟩ := ih i hi hp
      exact ⟨m, by omega, h2, h3⟩
    · exact ⟨n, Nat.le_refl _, h, fun i hi hp => g ⟨i, hi, hp⟩⟩
theorem rounds_impl (p : Int) (t : Nat) (ht : t ≤ 20) (L : Nat) (hL : L ≤ 999999) (hge : p ≤ rm (L : Int) t 1) (hlt : ∀ i : Nat, i < L → ¬ p ≤ rm (i : Int) t 1) (d : Nat) : ∀ i : Nat, L - i = d → i ≤ L →
    Ev (fun k => impl_RoundsFor.l0 k p (t : Int) (i : Int)) ((L : Int), true) := by
  induction d with
  | zero =>
    intro i hd hi
    obtain rfl : i = L := by omega
    exact Ev.step (fun k => by simp only [impl_RoundsFor.l0]; rfl) (Ev.bind (enough_ev t (i : Int) (by omega) (by omega) (by omega)) (ev_else (show ¬ rm (i : Int) t 1 < p by omega) (Ev.now _)))
  | succ d ih =>
    intro i hd hi
    have h := hlt i (by omega)
    have hw : wrap64 ((i : Int) + 1) = ((i + 1 : Nat) : Int) := by rw [w64 (by omega) (by omega)]; omega
    have h3 := ih (i + 1) (by omega) (by omega)
    rw [← hw] at h3
    exact Ev.step (fun k => by simp only [impl_RoundsFor.l0]; rfl) (Ev.bind (enough_ev t (i : Int) (by omega) (by omega) (by omega)) (ev_if (show rm (i : Int) t 1 < p by omega) h3))
theorem rounds_spec (p : Int) (t : Nat) (ht : t ≤ 20) (L : Nat) (hge : p ≤ rm (L : Int) t 1) (hlt : ∀ i : Nat, i < L → ¬ p ≤ rm (i : Int) t 1) (d : Nat) : ∀ lo hi : Nat, hi - lo ≤ d → lo ≤ L → L ≤ hi → hi ≤ 1000000 →
    Ev (fun k => spec_RoundsFor.l0 k p (t : Int) (lo : Int) (hi : Int)) ((L : Int), true) := by
  induction d with
  | zero =>
    intro lo hi hd h1 h2 h3
    obtain rfl : lo = L := by omega
    exact Ev.step (fun k => by simp only [spec_RoundsFor.l0]; rw [if_neg (by omega)]) (Ev.now _)
  | succ d ih =>
    intro lo hi hd h1 h2 h3
    by_cases hlh : lo < hi
    · have HGE := Aside0.mk hge
      have HLT := Aside0.mk hlt
      clear hge hlt
      obtain ⟨c, hc1, hc2, hc3⟩ : ∃ c : Nat, lo ≤ c ∧ c < hi ∧ wrap64 (Int.tdiv (wrap64 ((lo : Int) + (hi : Int))) 2) = (c : Int) ∧ 2 * c ≤ lo + hi ∧ lo + hi ≤ 2 * c + 1 := by
        refine ⟨(lo + hi) / 2, by omega, by omega, ?_, by omega, by omega⟩
        rw [w64 (x := (lo : Int) + (hi : Int)) (by omega) (by omega), Int.tdiv_eq_ediv_of_nonneg (by omega), w64 (by omega) (by omega)]
        omega
      have hm2 : wrap64 ((c : Int) + 1) = ((c + 1 : Nat) : Int) := by rw [w64 (by omega) (by omega)]; omega
      have hb := bxRoom_ev t (c : Int) (by omega) (by omega) (by omega)
      by_cases g : rm (c : Int) t 1 ≥ p
      · have h4 := ih lo c (by omega) h1 (by
          rcases Nat.lt_or_ge c L with hx | hx
          · exact absurd g (HLT.out _ hx)
          · exact hx) (by omega)
        refine Ev.step (f := fun k => (spec_bxRoom.f k (t : Int) (c : Int)).bind fun t150 => (if t150 ≥ p then (spec_RoundsFor.l0 k p (t : Int) (lo : Int) (c : Int)) else (spec_RoundsFor.l0 k p (t : Int) ((c + 1 : Nat) : Int) (hi : Int)))) (fun k => ?_) (Ev.bind hb (ev_if g h4))
        simp only [spec_RoundsFor.l0]
        rw [if_pos (by omega), hc3.1, hm2]
      · have h4 := ih (c + 1) hi (by omega) (by
          rcases Nat.lt_or_ge c L with hx | hx
          · omega
          · have := rm_mono t (L : Int) (c : Int) 1 1 (by omega) (by omega) (by omega) (by omega)
            have := HGE.out
            omega) h2 h3
        refine Ev.step (f := fun k => (spec_bxRoom.f k (t : Int) (c : Int)).bind fun t150 => (if t150 ≥ p then (spec_RoundsFor.l0 k p (t : Int) (lo : Int) (c : Int)) else (spec_RoundsFor.l0 k p (t : Int) ((c + 1 : Nat) : Int) (hi : Int)))) (fun k => ?_) (Ev.bind hb (ev_else g h4))
        simp only [spec_RoundsFor.l0]
        rw [if_pos (by omega), hc3.1, hm2]
    · obtain rfl : lo = L := by omega
      exact Ev.step (fun k => by simp only [spec_RoundsFor.l0]; rw [if_neg (by omega)]) (Ev.now _)
theorem FnExactRoundsFor : laws_FnExactRoundsFor.Pure := by
  intro p t _ _
  have key : ∃ q : Int × Bool, Ev (fun k => spec_RoundsFor.f k p t) q ∧ Ev (fun k => impl_RoundsFor.f k p t) q := by
    unfold spec_RoundsFor.f impl_RoundsFor.f
    rw [pralines_eq, arePralines_eq, l1In_eq, within_eq]
    simp only [Option.bind_some, decide_eq_true_eq]
    by_cases g : 1 ≤ p ∧ p ≤ 1000000
    · by_cases g2 : 1 ≤ t ∧ t ≤ 20
      · obtain ⟨n, rfl⟩ := Int.eq_ofNat_of_zero_le (show 0 ≤ t by omega)
        have htop : p ≤ rm ((999999 : Nat) : Int) n 1 := by
          obtain ⟨m, hm⟩ : ∃ m, n = m + 1 := ⟨n - 1, by omega⟩
          have hN : ((999999 : Nat) : Int) = 999999 := by omega
          rw [hm, hN]
          have h0 : rm 999999 (m + 1) 1 = rm 999999 m (1 * (999999 + 1)) := rfl
          rw [h0, rm_big 999999 (by omega) m _ (by omega)]
          exact g.2
        obtain ⟨L, hL, h1, h2⟩ := least_of (fun i : Nat => p ≤ rm (i : Int) n 1) 999999 htop
        have e1 : ((1000000 : Nat) : Int) = 1000000 := by omega
        have e2 : ((0 : Nat) : Int) = 0 := by omega
        have h3 := rounds_spec p n (by omega) L h1 h2 1000000 0 1000000 (by omega) (by omega) (by omega) (by omega)
        rw [e1, e2] at h3
        have h4 := rounds_impl p n (by omega) L hL h1 h2 L 0 (by omega) (by omega)
        rw [e2] at h4
        exact ⟨((L : Int), true), ev_if g (Ev.step (fun k => by simp only [spec_RoundsFor.j0]; rw [if_neg (by simp [g2])]) h3), ev_if g (Ev.step (fun k => by simp only [impl_RoundsFor.j0]; rw [if_neg (by simp [g2])]) h4)⟩
      · exact ⟨(0, false), ev_if g (Ev.step (fun k => by simp only [spec_RoundsFor.j0]; rw [if_pos (by simp; omega)]) (Ev.now _)), ev_if g (Ev.step (fun k => by simp only [impl_RoundsFor.j0]; rw [if_pos (by simp; omega)]) (Ev.now _))⟩
    · exact ⟨(0, false), ev_else g (Ev.step (fun k => by simp only [spec_RoundsFor.j0, if_true]) (Ev.now _)), ev_else g (Ev.step (fun k => by simp only [impl_RoundsFor.j0, if_true]) (Ev.now _))⟩
  obtain ⟨r, h5, h6⟩ := key
  obtain ⟨k, e1, e2⟩ := two h5 h6
  refine ⟨k, ?_⟩
  unfold laws_FnExactRoundsFor.f
  rw [e1, e2]
  simp

end Go.Proofs.Ytipgbhjioffbnaa.Pure
