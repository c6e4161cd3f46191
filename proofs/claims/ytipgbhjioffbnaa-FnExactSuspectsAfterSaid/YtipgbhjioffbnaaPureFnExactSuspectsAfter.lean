/- For all arguments (a text of at most 1048576 signs; for longer ones the law answers true by its own guard) the program's SuspectsAfter returns what the reference's SuspectsAfter returns, in memory that no later call and no caller's writing touches. No condition. -/
import Derived.Test.YtipgbhjioffbnaaQ11
namespace Go.Proofs.Ytipgbhjioffbnaa.Pure
open Go.RowKit Go.Proofs.Ytipgbhjioffbnaa.Q Go.Proofs.YtipgbhjioffbnaaW.PrintWords Go.Proofs.YtipgbhjioffbnaaW.PrintLast
set_option linter.unusedVariables false
set_option linter.unusedSimpArgs false

theorem w64 {x : Int} (h0 : -9223372036854775808 ≤ x) (h1 : x ≤ 9223372036854775807) : wrap64 x = x := by
  unfold wrap64
  omega
theorem wf_i64 {x : Int} (h : (Lit.int .i64 x).wf = true) : -9223372036854775808 ≤ x ∧ x ≤ 9223372036854775807 := by
  have hmin : IntKind.i64.min = -9223372036854775808 := rfl
  have hmax : IntKind.i64.max = 9223372036854775807 := rfl
  simp only [Lit.wf, Bool.and_eq_true, decide_eq_true_eq] at h
  omega

theorem two {α β : Type} {g : Nat → Option α} {f : Nat → Option β} {a : α} {b : β} (h : Ev g a) (h' : Ev f b) : ∃ k, g k = some a ∧ f k = some b := by
  obtain ⟨K, h⟩ := h
  obtain ⟨K', h'⟩ := h'
  exact ⟨max K K', h _ (by omega), h' _ (by omega)⟩
theorem str_app (xs ys : List Int) : strOfNums (xs ++ ys) = strOfNums xs ++ strOfNums ys := by
  apply ByteArray.ext
  simp [strOfNums]
theorem str_nil : strOfNums [] = (⟨#[]⟩ : ByteArray) := rfl
theorem str_size (xs : List Int) : (strOfNums xs).size = xs.length := by simp [strOfNums, ByteArray.size]
theorem ba_nil_app (b : ByteArray) : (⟨#[]⟩ : ByteArray) ++ b = b := by
  apply ByteArray.ext
  simp
theorem ba_app_nil (b : ByteArray) : b ++ (⟨#[]⟩ : ByteArray) = b := by
  apply ByteArray.ext
  simp
theorem ba_assoc (a b c : ByteArray) : a ++ b ++ c = a ++ (b ++ c) := by
  apply ByteArray.ext
  simp
theorem ev_if {α : Type} {c : Prop} [Decidable c] {g f : Nat → Option α} {r : α} (hc : c) (h : Ev g r) : Ev (fun k => if c then g k else f k) r :=
  Ev.congr (fun k => if_pos hc) h
theorem ev_else {α : Type} {c : Prop} [Decidable c] {g f : Nat → Option α} {r : α} (hc : ¬ c) (h : Ev f r) : Ev (fun k => if c then g k else f k) r :=
  Ev.congr (fun k => if_neg hc) h
theorem ev_bind {α β : Type} {a : α} {o : Option α} {f : Nat → α → Option β} {r : β} (h : o = some a) (k : Ev (fun n => f n a) r) : Ev (fun n => o.bind (f n)) r :=
  Ev.congr (fun n => by rw [h]; rfl) k

theorem l1In_eq (a b c : Int) : spec_l1In.f a b c = some (decide (b ≤ a ∧ a ≤ c)) := by
  unfold spec_l1In.f
  by_cases h : b ≤ a
  · rw [if_pos (show a ≥ b from h)]; simp [h]
  · rw [if_neg (show ¬ a ≥ b from h)]; simp [h]
theorem within_eq (a b c : Int) : impl_within.f a b c = some (decide (b ≤ a ∧ a ≤ c)) := by
  unfold impl_within.f
  by_cases h : b ≤ a
  · rw [if_pos h]; simp [h]
  · rw [if_neg h]; simp [h]
theorem within_l1In (a b c : Int) : impl_within.f a b c = spec_l1In.f a b c := by rw [within_eq, l1In_eq]

theorem rd_nat (xs : List Int) (j : Nat) (h : j < xs.length) : rd xs (j : Int) = xs[j] := by
  simp [rd, List.getD_eq_getElem?_getD, List.getElem?_eq_getElem h]
theorem w64s {j : Nat} (h : j < 9223372036854775807) : wrap64 ((j : Int) + 1) = ((j + 1 : Nat) : Int) := by
  rw [w64 (by omega) (by omega)]; omega
theorem eqIntS_l0 (xs ys : List Int) (hl : xs.length = ys.length) (hx : xs.length ≤ 1099511627776) (d : Nat) : ∀ (j : Nat), (∀ i (h : i < xs.length) (h' : i < ys.length), i < j → xs[i] = ys[i]) → j ≤ xs.length → xs.length - j = d →
    Ev (fun k => laws_eqIntS.l0 k xs ys (j : Int)) (decide (xs = ys)) := by
  induction d with
  | zero =>
    intro j hv hj hd
    have e : xs = ys := List.ext_getElem hl (fun i h h' => hv i h h' (by omega))
    refine Ev.step (fun k => by simp only [laws_eqIntS.l0]; rw [if_neg (by omega)]) ?_
    simpa [e] using Ev.now true
  | succ d ih =>
    intro j hv hj hd
    have hj1 : j < xs.length := by omega
    have hj2 : j < ys.length := by omega
    by_cases e : xs[j] = ys[j]
    · refine Ev.step (f := fun k => laws_eqIntS.l0 k xs ys ((j + 1 : Nat) : Int)) (fun k => ?_) (ih (j + 1) ?_ (by omega) (by omega))
      · simp only [laws_eqIntS.l0]
        rw [if_pos (by omega), if_pos (by omega), if_pos (by omega), rd_nat xs j hj1, rd_nat ys j hj2, if_pos e, w64s (by omega)]
      · intro i h h' hi
        by_cases e2 : i = j
        · subst e2; exact e
        · exact hv i h h' (by omega)
    · have hne : decide (xs = ys) = false := by
        simp only [decide_eq_false_iff_not]
        rintro rfl
        exact e rfl
      rw [hne]
      refine Ev.step (fun k => ?_) (Ev.now false)
      simp only [laws_eqIntS.l0]
      rw [if_pos (by omega), if_pos (by omega), if_pos (by omega), rd_nat xs j hj1, rd_nat ys j hj2, if_neg e]
theorem eqIntS_ev (xs ys : List Int) (hx : xs.length ≤ 1099511627776) : Ev (fun k => laws_eqIntS.f k xs ys) (decide (xs = ys)) := by
  unfold laws_eqIntS.f
  by_cases h : xs.length = ys.length
  · refine ev_if (by omega) ?_
    exact eqIntS_l0 xs ys h hx xs.length 0 (fun i _ _ hi => absurd hi (Nat.not_lt_zero _)) (by omega) (by omega)
  · refine ev_else (by omega) ?_
    have hne : decide (xs = ys) = false := by
      simp only [decide_eq_false_iff_not]
      rintro rfl
      exact h rfl
    rw [hne]
    exact Ev.now false
theorem eqIntS_self (xs : List Int) (hx : xs.length ≤ 1099511627776) : Ev (fun k => laws_eqIntS.f k xs xs) true := by
  have := eqIntS_ev xs xs hx
  simpa using this

/-- m, m + 1, .. : n numbers. -/
def upFrom : Nat → Int → List Int
  | 0, _ => []
  | n + 1, m => m :: upFrom n (m + 1)
theorem upFrom_len (n : Nat) : ∀ m, (upFrom n m).length = n := by
  induction n with
  | zero => intro m; rfl
  | succ n ih => intro m; simp [upFrom, ih]
theorem upFrom_get (n : Nat) : ∀ (m : Int) (i : Nat) (h : i < (upFrom n m).length), (upFrom n m)[i] = m + i := by
  induction n with
  | zero => intro m i h; simp [upFrom] at h
  | succ n ih =>
    intro m i h
    cases i with
    | zero => simp [upFrom]
    | succ i =>
      simp only [upFrom, List.getElem_cons_succ]
      rw [ih (m + 1) i (by simpa [upFrom] using h)]
      omega
theorem upFrom_rd (n : Nat) (m : Int) (i : Nat) (h : i < n) : rd (upFrom n m) (i : Int) = m + i := by
  have h' : i < (upFrom n m).length := by rw [upFrom_len]; exact h
  rw [rd_nat _ _ h', upFrom_get]
theorem markIntS_l0 (n : Nat) (m0 : Int) (hm0 : 0 ≤ m0) (hm : m0 + n ≤ 1099511627776) (d : Nat) : ∀ (j : Nat) (ys : List Int), ys.length = n → (∀ i (h : i < ys.length), i < j → ys[i] = m0 + i) → j ≤ n → n - j = d →
    Ev (fun k => laws_markIntS.l0 k ys (m0 + j) (j : Int)) (m0 + n, upFrom n m0) := by
  induction d with
  | zero =>
    intro j ys hl hv hj hd
    obtain rfl : j = n := by omega
    have e : ys = upFrom j m0 := List.ext_getElem (by rw [hl, upFrom_len]) (fun i h h' => by rw [hv i h (by omega), upFrom_get])
    rw [e]
    refine Ev.step (fun k => ?_) (Ev.now _)
    simp only [laws_markIntS.l0]
    rw [if_neg (by rw [upFrom_len]; omega)]
  | succ d ih =>
    intro j ys hl hv hj hd
    have h := ih (j + 1) (ys.set j (m0 + j)) (by simp [hl]) (by
      intro i h hi
      rw [List.getElem_set]
      by_cases e : j = i
      · subst e; simp
      · rw [if_neg e]; exact hv i (by simpa using h) (by omega)) (by omega) (by omega)
    rw [show m0 + ((j + 1 : Nat) : Int) = m0 + (j : Int) + 1 by omega] at h
    refine Ev.step (fun k => ?_) h
    simp only [laws_markIntS.l0]
    rw [if_pos (by omega), if_pos (by omega), Int.toNat_natCast, w64 (x := m0 + (j : Int) + 1) (by omega) (by omega), w64s (by omega)]
theorem mark_ev (xs : List Int) (m : Int) (hm : 0 ≤ m) (hl : m + xs.length ≤ 1099511627776) : Ev (fun k => laws_markIntS.f k xs m) (m + xs.length, upFrom xs.length m) := by
  have h := markIntS_l0 xs.length m hm hl xs.length 0 xs rfl (fun i _ hi => absurd hi (Nat.not_lt_zero _)) (by omega) (by omega)
  rw [show m + ((0 : Nat) : Int) = m by omega] at h
  exact h
theorem heldIntS_l0 (n : Nat) (m0 : Int) (hm0 : 0 ≤ m0) (hm : m0 + n ≤ 1099511627776) (d : Nat) : ∀ (j : Nat), j ≤ n → n - j = d → Ev (fun k => laws_heldIntS.l0 k (upFrom n m0) (m0 + j) (j : Int)) (m0 + n) := by
  induction d with
  | zero =>
    intro j hj hd
    obtain rfl : j = n := by omega
    refine Ev.step (fun k => ?_) (Ev.now _)
    simp only [laws_heldIntS.l0]
    rw [if_neg (by rw [upFrom_len]; omega)]
  | succ d ih =>
    intro j hj hd
    have h := ih (j + 1) (by omega) (by omega)
    rw [show m0 + ((j + 1 : Nat) : Int) = m0 + (j : Int) + 1 by omega] at h
    refine Ev.step (fun k => ?_) h
    simp only [laws_heldIntS.l0]
    rw [if_pos (by rw [upFrom_len]; omega), if_pos (by omega), upFrom_rd n m0 j (by omega), if_pos rfl, w64 (x := m0 + (j : Int) + 1) (by omega) (by omega), w64s (by omega)]
theorem held_ev (n : Nat) (m : Int) (hm : 0 ≤ m) (hl : m + n ≤ 1099511627776) : Ev (fun k => laws_heldIntS.f k (upFrom n m) m) (m + n) := by
  have h := heldIntS_l0 n m hm hl n 0 (by omega) (by omega)
  rw [show m + ((0 : Nat) : Int) = m by omega] at h
  exact h

theorem pan {m : Int} (h0 : 0 ≤ m) (h1 : m ≤ 1000) : wrap64 (Int.tdiv (wrap64 (m + 1)) 3) = (m + 1) / 3 := by
  rw [w64 (x := m + 1) (by omega) (by omega), Int.tdiv_eq_ediv_of_nonneg (by omega), w64 (by omega) (by omega)]
theorem weighed_c {m : Int} (h0 : 2 ≤ m) (h1 : m ≤ 1000) (c : Int) : impl_weighed.f m c =
    some (if c = 108 then (0, (m + 1) / 3) else if c = 114 then ((m + 1) / 3, (m + 1) / 3) else if c = 61 then (2 * ((m + 1) / 3), m - 2 * ((m + 1) / 3)) else (0, 0)) := by
  have hg : impl_WeighGroups.f m = some ((m + 1) / 3, m - 2 * ((m + 1) / 3), true) := by
    unfold impl_WeighGroups.f
    rw [within_eq]
    simp only [Option.bind_some, decide_eq_true_eq]
    rw [if_pos ⟨h0, h1⟩, pan (by omega) h1, w64 (x := 2 * ((m + 1) / 3)) (by omega) (by omega), w64 (by omega) (by omega)]
  unfold impl_weighed.f
  rw [hg]
  simp only [Option.bind_some]
  rw [w64 (x := 2 * ((m + 1) / 3)) (by omega) (by omega)]
  split
  · rfl
  · split
    · rfl
    · split <;> rfl
theorem weighed_1000 (a : Int) : impl_areWeighed.f a = some (decide (1 ≤ a ∧ a ≤ 1000)) := by
  unfold impl_areWeighed.f
  rw [within_eq]; rfl
theorem bxWeighed_1000 (a : Int) : spec_bxWeighed.f a = some (decide (1 ≤ a ∧ a ≤ 1000)) := by
  unfold spec_bxWeighed.f
  rw [l1In_eq]; rfl

theorem suspects_l0 (s : ByteArray) (hs : s.size ≤ 1048576) (d : Nat) : ∀ (f m : Int), d ≤ s.size → 0 ≤ f → f + m ≤ 1000 → 1 ≤ m →
    ∃ o : Option (Int × Int), saLoop s d f m = some o ∧ (∀ q, o = some q → 0 ≤ q.1 ∧ 1 ≤ q.2 ∧ q.1 + q.2 ≤ 1000) ∧
      Ev (fun k => spec_bxAfter.l0 k s f m ((s.size - d : Nat) : Int)) (match o with | none => (0, 0, false) | some q => (q.1, q.2, true)) := by
  induction d with
  | zero =>
    intro f m hd h0 h1 h2
    refine ⟨some (f, m), rfl, (fun q e => by cases e; exact ⟨h0, h2, h1⟩), Ev.step (fun k => ?_) (Ev.now _)⟩
    simp only [spec_bxAfter.l0]
    rw [if_neg (by omega)]
  | succ d ih =>
    intro f m hd h0 h1 h2
    have hw : wrap64 (((s.size - (d + 1) : Nat) : Int) + 1) = ((s.size - d : Nat) : Int) := by rw [w64 (by omega) (by omega)]; omega
    have hsp : ∀ k, spec_bxAfter.l0 (k + 1) s f m ((s.size - (d + 1) : Nat) : Int) = (if m = 1 then (some (0, 0, false)) else (if (bt s ((s.size - (d + 1) : Nat) : Int)) = 108 then (if (m + 1) / 3 = 0 then (some (0, 0, false)) else (spec_bxAfter.l0 k s f ((m + 1) / 3) ((s.size - d : Nat) : Int))) else (if (bt s ((s.size - (d + 1) : Nat) : Int)) = 114 then (if (m + 1) / 3 = 0 then (some (0, 0, false)) else (spec_bxAfter.l0 k s (f + (m + 1) / 3) ((m + 1) / 3) ((s.size - d : Nat) : Int))) else (if (bt s ((s.size - (d + 1) : Nat) : Int)) = 61 then (if m - 2 * ((m + 1) / 3) = 0 then (some (0, 0, false)) else (spec_bxAfter.l0 k s (f + 2 * ((m + 1) / 3)) (m - 2 * ((m + 1) / 3)) ((s.size - d : Nat) : Int))) else (some (0, 0, false)))))) := by
      intro k
      simp only [spec_bxAfter.l0, spec_bxPan.f]
      rw [if_pos (by omega), pan (by omega) (by omega)]
      simp only [Option.bind_some]
      rw [if_pos (show 0 ≤ ((s.size - (d + 1) : Nat) : Int) by omega), hw, w64 (x := 2 * ((m + 1) / 3)) (by omega) (by omega), w64 (x := m - 2 * ((m + 1) / 3)) (by omega) (by omega), w64 (x := f + (m + 1) / 3) (by omega) (by omega), w64 (x := f + 2 * ((m + 1) / 3)) (by omega) (by omega)]
    by_cases g1 : m = 1
    · refine ⟨none, ?_, (fun q e => by cases e), Ev.step (fun k => by rw [hsp k, if_pos g1]) (Ev.now _)⟩
      have hwg : ∃ b, impl_weighed.f m (bt s ((s.size - (d + 1) : Nat) : Int)) = some b := by
        unfold impl_weighed.f impl_WeighGroups.f
        rw [within_eq]
        simp only [Option.bind_some]
        rw [if_neg (by simp; omega)]
        simp only [Option.bind_some]
        split
        · exact ⟨_, rfl⟩
        · split
          · exact ⟨_, rfl⟩
          · split <;> exact ⟨_, rfl⟩
      obtain ⟨b, hb⟩ := hwg
      simp only [saLoop]
      rw [hb]
      simp only [Option.bind_some]
      rw [if_pos (.inl g1)]
    · have hsa : saLoop s (d + 1) f m = (impl_weighed.f m (bt s ((s.size - (d + 1) : Nat) : Int))).bind fun b => if m = 1 ∨ b.2 = 0 then some none else saLoop s d (wrap64 (f + b.1)) b.2 := rfl
      rw [weighed_c (by omega) (by omega)] at hsa
      simp only [Option.bind_some] at hsa
      by_cases c1 : bt s ((s.size - (d + 1) : Nat) : Int) = 108
      · obtain ⟨o, h3, h4, h5⟩ := ih f ((m + 1) / 3) (by omega) h0 (by omega) (by omega)
        rw [if_pos c1] at hsa
        simp only [] at hsa
        rw [if_neg (by omega), w64 (by omega) (by omega), Int.add_zero] at hsa
        exact ⟨o, hsa.trans h3, h4, Ev.step (fun k => by rw [hsp k, if_neg g1, if_pos c1, if_neg (by omega)]) h5⟩
      · rw [if_neg c1] at hsa
        by_cases c2 : bt s ((s.size - (d + 1) : Nat) : Int) = 114
        · obtain ⟨o, h3, h4, h5⟩ := ih (f + (m + 1) / 3) ((m + 1) / 3) (by omega) (by omega) (by omega) (by omega)
          rw [if_pos c2] at hsa
          simp only [] at hsa
          rw [if_neg (by omega), w64 (by omega) (by omega)] at hsa
          exact ⟨o, hsa.trans h3, h4, Ev.step (fun k => by rw [hsp k, if_neg g1, if_neg c1, if_pos c2, if_neg (by omega)]) h5⟩
        · rw [if_neg c2] at hsa
          by_cases c3 : bt s ((s.size - (d + 1) : Nat) : Int) = 61
          · rw [if_pos c3] at hsa
            simp only [] at hsa
            by_cases c4 : m - 2 * ((m + 1) / 3) = 0
            · rw [if_pos (.inr c4)] at hsa
              exact ⟨none, hsa, (fun q e => by cases e), Ev.step (fun k => by rw [hsp k, if_neg g1, if_neg c1, if_neg c2, if_pos c3, if_pos c4]) (Ev.now _)⟩
            · obtain ⟨o, h3, h4, h5⟩ := ih (f + 2 * ((m + 1) / 3)) (m - 2 * ((m + 1) / 3)) (by omega) (by omega) (by omega) (by omega)
              rw [if_neg (by omega), w64 (by omega) (by omega)] at hsa
              exact ⟨o, hsa.trans h3, h4, Ev.step (fun k => by rw [hsp k, if_neg g1, if_neg c1, if_neg c2, if_pos c3, if_neg c4]) h5⟩
          · rw [if_neg c3] at hsa
            simp only [] at hsa
            rw [if_pos (.inr trivial)] at hsa
            exact ⟨none, hsa, (fun q e => by cases e), Ev.step (fun k => by rw [hsp k, if_neg g1, if_neg c1, if_neg c2, if_neg c3]) (Ev.now _)⟩
theorem suspects_list (f m : Int) (h0 : 0 ≤ f) (h1 : f + m ≤ 1000) (hm : 1 ≤ m) (d : Nat) : ∀ j : Nat, m.toNat - j = d → j ≤ m.toNat → Ev (fun k => spec_SuspectsAfter.l0 k f m (saList f j) (j : Int)) (saList f m.toNat, true) := by
  induction d with
  | zero =>
    intro j hd hj
    obtain rfl : j = m.toNat := by omega
    refine Ev.step (fun k => ?_) (Ev.now _)
    simp only [spec_SuspectsAfter.l0]
    rw [if_neg (by omega)]
  | succ d ih =>
    intro j hd hj
    have h := ih (j + 1) (by omega) (by omega)
    rw [saList_succ] at h
    refine Ev.step (fun k => ?_) h
    simp only [spec_SuspectsAfter.l0]
    rw [if_pos (by omega), if_pos (by rw [saList_len]; omega), w64s (by omega)]
theorem FnExactSuspectsAfter : laws_FnExactSuspectsAfter.Pure := by
  intro p s _ _
  apply Ev.rounds (r := true)
  unfold laws_FnExactSuspectsAfter.f
  by_cases hs0 : (s.size : Int) > 1048576
  · exact ev_if hs0 (Ev.now _)
  refine ev_else hs0 ?_
  have key : ∃ (L : List Int) (b : Bool), L.length ≤ 1000 ∧ Ev (fun k => spec_SuspectsAfter.f k p s) (L, b) ∧ impl_SuspectsAfter.f p s = some (L, b) := by
    unfold spec_SuspectsAfter.f impl_SuspectsAfter.f
    rw [weighed_1000, bxWeighed_1000]
    simp only [Option.bind_some, decide_eq_true_eq]
    by_cases g : 1 ≤ p ∧ p ≤ 1000
    · obtain ⟨o, h1, h2, h3⟩ := suspects_l0 s (by omega) s.size 0 p (Nat.le_refl _) (by omega) (by omega) g.1
      rw [show ((s.size - s.size : Nat) : Int) = 0 by omega] at h3
      change Ev (fun k => spec_bxAfter.f k p s) _ at h3
      cases o with
      | none =>
        refine ⟨[], false, by simp, ev_if g (Ev.bind (f := fun k bt173 => (if bt173.2.2 = true then (spec_SuspectsAfter.l0 k bt173.1 bt173.2.1 ([] : List Int) 0) else (some (([] : List Int), false)))) h3 (ev_else (by simp) (Ev.now _))), ?_⟩
        rw [if_pos g, if_pos (by omega), h1]; rfl
      | some q =>
        obtain ⟨q1, q2, q3⟩ := h2 q rfl
        have h4 := suspects_list q.1 q.2 q1 q3 q2 q.2.toNat 0 (by omega) (by omega)
        refine ⟨saList q.1 q.2.toNat, true, by rw [saList_len]; omega, ev_if g (Ev.bind (f := fun k bt173 => (if bt173.2.2 = true then (spec_SuspectsAfter.l0 k bt173.1 bt173.2.1 ([] : List Int) 0) else (some (([] : List Int), false)))) h3 (ev_if rfl h4)), ?_⟩
        rw [if_pos g, if_pos (by omega), h1]
        simp only [Option.bind_some]
        rw [if_pos (by omega)]
    · exact ⟨[], false, by simp, ev_else g (Ev.now _), by rw [if_neg g]⟩
  obtain ⟨L, b, hl, hs, hi⟩ := key
  have hm := mark_ev L 1 (by omega) (by omega)
  have hh := held_ev L.length 1 (by omega) (by omega)
  refine Ev.bind hs (ev_bind hi (Ev.bind (eqIntS_self L (by omega)) (ev_if rfl ?_)))
  refine Ev.step (fun k => by simp only [laws_FnExactSuspectsAfter.j0]; rfl) (ev_else (by simp) (Ev.bind hm (Ev.bind hh (ev_else (show ¬ (1 + (L.length : Int)) < 0 by omega) (ev_if rfl (ev_bind hi (Ev.bind (eqIntS_self L (by omega)) (ev_if rfl ?_))))))))
  exact Ev.step (fun k => by simp only [laws_FnExactSuspectsAfter.j1]; rfl) (ev_else (by simp) (Ev.bind hh (ev_else (show ¬ (1 + (L.length : Int)) < 0 by omega) (ev_if rfl (Ev.now _)))))

end Go.Proofs.Ytipgbhjioffbnaa.Pure
