/- For every box the program's RowsAndColumns returns what the reference's RowsAndColumns returns, in memory that no later call and no caller's writing touches, and leaves its argument as it was. Condition: the package variables unicode/utf8.first and unicode/utf8.acceptRanges hold what the library's text lays. -/
import Derived.Test.YtghfhcmjnpjgdaaDoorS90
namespace Go.Proofs.YtghfhcmjnpjgdaaDoor.Pure
open Go.RowKit Go.Proofs.YtghfhcmjnpjgdaaDoor.S Go.Proofs.YtghfhcmjnpjgdaaDoorW.PrintWords Go.Proofs.YtghfhcmjnpjgdaaDoorW.PrintLast
set_option linter.unusedVariables false
set_option linter.unusedSimpArgs false

theorem w64 {x : Int} (h0 : -9223372036854775808 ≤ x) (h1 : x ≤ 9223372036854775807) : wrap64 x = x := by
  unfold wrap64
  omega
theorem wf_i64 {x : Int} (h : (Lit.int .i64 x).wf = true) : -9223372036854775808 ≤ x ∧ x ≤ 9223372036854775807 := by
  have hmin : IntKind.i64.min = -9223372036854775808 := rfl
  have hmax : IntKind.i64.max = 9223372036854775807 := rfl
  simp only [Lit.wf, Bool.and_eq_true, decide_eq_true_eq] at h
  omega

theorem two {α β : Type} {g : Nat → Option α} {f : Nat → Option β} {a : α} {b : β} (h : Ev g a) (h' : Ev f b) : ∃ k, g k = some a ∧ f k = some b := by
  obtain ⟨K, h⟩ := h
  obtain ⟨K', h'⟩ := h'
  exact ⟨max K K', h _ (by omega), h' _ (by omega)⟩
theorem str_app (xs ys : List Int) : strOfNums (xs ++ ys) = strOfNums xs ++ strOfNums ys := by
  apply ByteArray.ext
  simp [strOfNums]
theorem str_nil : strOfNums [] = (⟨#[]⟩ : ByteArray) := rfl
theorem str_size (xs : List Int) : (strOfNums xs).size = xs.length := by simp [strOfNums, ByteArray.size]
theorem ba_nil_app (b : ByteArray) : (⟨#[]⟩ : ByteArray) ++ b = b := by
  apply ByteArray.ext
  simp
theorem ba_app_nil (b : ByteArray) : b ++ (⟨#[]⟩ : ByteArray) = b := by
  apply ByteArray.ext
  simp
theorem ba_assoc (a b c : ByteArray) : a ++ b ++ c = a ++ (b ++ c) := by
  apply ByteArray.ext
  simp
theorem ev_if {α : Type} {c : Prop} [Decidable c] {g f : Nat → Option α} {r : α} (hc : c) (h : Ev g r) : Ev (fun k => if c then g k else f k) r :=
  Ev.congr (fun k => if_pos hc) h
theorem ev_else {α : Type} {c : Prop} [Decidable c] {g f : Nat → Option α} {r : α} (hc : ¬ c) (h : Ev f r) : Ev (fun k => if c then g k else f k) r :=
  Ev.congr (fun k => if_neg hc) h
theorem ev_bind {α β : Type} {a : α} {o : Option α} {f : Nat → α → Option β} {r : β} (h : o = some a) (k : Ev (fun n => f n a) r) : Ev (fun n => o.bind (f n)) r :=
  Ev.congr (fun n => by rw [h]; rfl) k

theorem l1In_eq (a b c : Int) : spec_l1In.f a b c = some (decide (b ≤ a ∧ a ≤ c)) := by
  unfold spec_l1In.f
  by_cases h : b ≤ a
  · rw [if_pos (show a ≥ b from h)]; simp [h]
  · rw [if_neg (show ¬ a ≥ b from h)]; simp [h]
theorem within_eq (a b c : Int) : impl_within.f a b c = some (decide (b ≤ a ∧ a ≤ c)) := by
  unfold impl_within.f
  by_cases h : b ≤ a
  · rw [if_pos h]; simp [h]
  · rw [if_neg h]; simp [h]
theorem within_l1In (a b c : Int) : impl_within.f a b c = spec_l1In.f a b c := by rw [within_eq, l1In_eq]

/-! ### Texts -/
theorem w64s {j : Nat} (h : j < 9223372036854775807) : wrap64 ((j : Int) + 1) = ((j + 1 : Nat) : Int) := by
  rw [w64 (by omega) (by omega)]; omega
theorem rdOf_nat {α : Type} (d : α) (xs : List α) (j : Nat) (h : j < xs.length) : rdOf d xs (j : Int) = xs[j] := by
  simp [rdOf, List.getD_eq_getElem?_getD, List.getElem?_eq_getElem h]
theorem eqStringS_l0 (xs : List ByteArray) (hx : xs.length ≤ 1048576) (d : Nat) : ∀ j : Nat, j + d = xs.length → Ev (fun k => laws_eqStringS.l0 k xs xs (j : Int)) true := by
  induction d with
  | zero =>
    intro j hj
    refine Ev.step (fun k => rfl) ?_
    simp only [laws_eqStringS.l0]
    exact ev_else (by omega) (Ev.now _)
  | succ d ih =>
    intro j hj
    refine Ev.step (fun k => rfl) ?_
    simp only [laws_eqStringS.l0]
    refine ev_if (by omega) (ev_if (by omega) (ev_if (by omega) (ev_if ?_ ?_)))
    · first | rfl | trivial
    rw [w64s (by omega)]
    exact ih (j + 1) (by omega)
theorem eqStringS_self (xs : List ByteArray) (hx : xs.length ≤ 1048576) : Ev (fun k => laws_eqStringS.f k xs xs) true := by
  unfold laws_eqStringS.f
  exact ev_if rfl (eqStringS_l0 xs hx xs.length 0 (by omega))

/-! ### Bytes of a text -/
theorem sz_list (s : ByteArray) : s.data.toList.length = s.size := by rw [Array.length_toList]; rfl
theorem bt_list (s : ByteArray) (j : Nat) (h : j < s.data.toList.length) : bt s (j : Int) = ((s.data.toList[j]'h).toNat : Int) := by
  rw [sz_list] at h
  unfold bt
  rw [dif_pos (by rw [Int.toNat_natCast]; exact h)]
  simp only [Int.toNat_natCast]
  rfl
theorem u8_eq (b : UInt8) (n : Nat) (c : UInt8) (hc : c.toNat = n) : ((b.toNat : Int) = (n : Int)) ↔ b = c := by
  constructor
  · intro h
    apply UInt8.toNat_inj.mp
    omega
  · rintro rfl
    rw [hc]
theorem dw_nil {α : Type} (p : α → Bool) (l : List α) : l.all p = true → l.dropWhile p = [] := by
  induction l with
  | nil => intro _; rfl
  | cons a l ih =>
    intro h
    rw [List.all_cons, Bool.and_eq_true] at h
    rw [List.dropWhile_cons, if_pos h.1]
    exact ih h.2
theorem dw_all {α : Type} (p : α → Bool) (l : List α) : (l.dropWhile p).all p = true → l.all p = true := by
  induction l with
  | nil => intro _; rfl
  | cons a l ih =>
    intro h
    rw [List.dropWhile_cons] at h
    by_cases c : p a = true
    · rw [if_pos c] at h
      rw [List.all_cons, c, ih h]; rfl
    · rw [if_neg c] at h
      exact h
theorem trimS_all (l cs : List UInt8) : (Lib.trimS l cs == []) = l.all (cs.contains ·) := by
  cases h : l.all (cs.contains ·) with
  | true =>
    have hr : l.reverse.all (cs.contains ·) = true := by rw [List.all_reverse]; exact h
    have e : Lib.trimRightS l cs = [] := by
      unfold Lib.trimRightS
      rw [dw_nil _ _ hr]; rfl
    unfold Lib.trimS
    rw [e]
    rfl
  | false =>
    rw [beq_eq_false_iff_ne]
    intro e
    have h1 : (Lib.trimRightS l cs).all (cs.contains ·) = true := by
      refine dw_all _ _ ?_
      have e' : List.dropWhile (cs.contains ·) (Lib.trimRightS l cs) = [] := e
      rw [e']
      rfl
    have h2 : (l.reverse.dropWhile (cs.contains ·)).all (cs.contains ·) = true := by
      have h3 := h1
      unfold Lib.trimRightS at h3
      rw [List.all_reverse] at h3
      exact h3
    have h4 := dw_all _ _ h2
    rw [List.all_reverse, h] at h4
    cases h4

/-! ### Arguments: lists of texts -/
theorem szS_l0 (xs : List ByteArray) (hx : xs.length ≤ 1048576) (hs : ∀ x ∈ xs, x.size ≤ 9223372036854775807) (d : Nat) : ∀ (j : Nat) (left : Int), j + d = xs.length → 0 ≤ left → left ≤ 1048576 → ∃ r, Ev (fun k => laws_szStringS.l0 k xs left (j : Int)) r := by
  induction d with
  | zero =>
    intro j left hj h0 h1
    refine ⟨left, Ev.step (fun k => rfl) ?_⟩
    simp only [laws_szStringS.l0]
    exact ev_else (by omega) (Ev.now _)
  | succ d ih =>
    intro j left hj h0 h1
    have hl : j < xs.length := by omega
    have hb := hs _ (List.getElem_mem hl)
    have e : wrap64 (left - (xs[j].size : Int)) = left - (xs[j].size : Int) := w64 (by omega) (by omega)
    by_cases c : left - (xs[j].size : Int) < 0
    · refine ⟨-1, Ev.step (fun k => rfl) ?_⟩
      simp only [laws_szStringS.l0]
      rw [rdOf_nat _ _ j hl, e]
      exact ev_if (by omega) (ev_if (by omega) (ev_if c (Ev.now _)))
    · obtain ⟨r, hr⟩ := ih (j + 1) (left - (xs[j].size : Int)) (by omega) (by omega) (by omega)
      refine ⟨r, Ev.step (fun k => rfl) ?_⟩
      simp only [laws_szStringS.l0]
      rw [rdOf_nat _ _ j hl, e, w64s (by omega)]
      exact ev_if (by omega) (ev_if (by omega) (ev_else c hr))
theorem szS_ev (xs : List ByteArray) (h1 : xs.length ≤ 9223372036854775807) (hs : ∀ x ∈ xs, x.size ≤ 9223372036854775807) : ∃ r, Ev (fun k => laws_szStringS.f k xs 1048576) r ∧ (¬ r < 0 → xs.length ≤ 1048576) := by
  unfold laws_szStringS.f
  have e : wrap64 (1048576 - (xs.length : Int)) = 1048576 - (xs.length : Int) := w64 (by omega) (by omega)
  rw [e]
  by_cases c : 1048576 - (xs.length : Int) < 0
  · exact ⟨-1, ev_if c (Ev.now _), fun h => absurd (show (-1 : Int) < 0 by omega) h⟩
  · obtain ⟨r, hr⟩ := szS_l0 xs (by omega) hs xs.length 0 (1048576 - (xs.length : Int)) (by omega) (by omega) (by omega)
    exact ⟨r, ev_else c hr, fun _ => by omega⟩
theorem toS_l0 (xs : List ByteArray) (hx : xs.length ≤ 1048576) (d : Nat) : ∀ j : Nat, j + d = xs.length → Ev (fun k => laws_toStringS.l0 k xs (xs.take j ++ List.replicate d (⟨#[]⟩ : ByteArray)) (j : Int)) xs := by
  induction d with
  | zero =>
    intro j hj
    refine Ev.step (fun k => rfl) ?_
    simp only [laws_toStringS.l0]
    rw [List.take_of_length_le (by omega), List.replicate_zero, List.append_nil]
    exact ev_else (by omega) (Ev.now _)
  | succ d ih =>
    intro j hj
    have hl : j < xs.length := by omega
    have ht : (xs.take j).length = j := by rw [List.length_take]; omega
    have e : (xs.take j ++ List.replicate (d + 1) (⟨#[]⟩ : ByteArray)).set j xs[j] = xs.take (j + 1) ++ List.replicate d (⟨#[]⟩ : ByteArray) := by
      rw [List.set_append, if_neg (by omega), ht, Nat.sub_self, List.replicate_succ, List.set_cons_zero, List.take_succ_eq_append_getElem hl, List.append_assoc]
      rfl
    refine Ev.step (fun k => rfl) ?_
    simp only [laws_toStringS.l0]
    rw [rdOf_nat _ _ j hl, Int.toNat_natCast, e, w64s (by omega)]
    exact ev_if (by omega) (ev_if (by omega) (ev_if (by rw [List.length_append, List.length_replicate, ht]; omega) (ih (j + 1) (by omega))))
theorem toS_ev (xs : List ByteArray) (hx : xs.length ≤ 1048576) : Ev (fun k => laws_toStringS.f k xs) xs := by
  unfold laws_toStringS.f
  rw [Int.toNat_natCast]
  exact ev_if (by omega) (ev_if (by omega) (toS_l0 xs hx xs.length 0 (by omega)))

theorem markText_l0 (d : Nat) : ∀ (m : Int) (s : ByteArray), m.toNat ≤ d → 0 ≤ m → d + s.size ≤ 1125899906842624 → ∃ t, Ev (fun k => laws_markText.l0 k m s) t := by
  induction d with
  | zero =>
    intro m s h1 h2 h3
    refine ⟨(⟨#[109]⟩ : ByteArray) ++ s, Ev.step (fun k => rfl) ?_⟩
    simp only [laws_markText.l0]
    exact ev_else (by omega) (ev_if (by omega) (Ev.now _))
  | succ d ih =>
    intro m s h1 h2 h3
    by_cases g : m > 0
    · have e : Int.tdiv m 10 = m / 10 := Int.tdiv_eq_ediv_of_nonneg h2
      have e2 : wrap64 (Int.tdiv m 10) = m / 10 := by rw [e]; exact w64 (by omega) (by omega)
      have e3 : (strOfNums [(wrap64 (48 + Int.tmod m 10)) % 256]).size = 1 := str_size _
      obtain ⟨t, ht⟩ := ih (m / 10) (strOfNums [(wrap64 (48 + Int.tmod m 10)) % 256] ++ s) (by omega) (by omega) (by rw [ByteArray.size_append, e3]; omega)
      refine ⟨t, Ev.step (fun k => rfl) ?_⟩
      simp only [laws_markText.l0]
      refine ev_if g (ev_bind rfl (ev_if (by rw [e3]; omega) ?_))
      rw [e2]
      exact ht
    · exact ih m s (by omega) h2 (by omega)
theorem markText_ev : ∃ T : Int → ByteArray, ∀ m : Int, m ≤ 1099511627776 → Ev (fun k => laws_markText.f k m) (T m) := by
  have h : ∀ m : Int, ∃ t, m ≤ 1099511627776 → Ev (fun k => laws_markText.f k m) t := by
    intro m
    by_cases g : m ≤ 0
    · refine ⟨(⟨#[109, 48]⟩ : ByteArray), fun _ => ?_⟩
      unfold laws_markText.f
      exact ev_if g (Ev.now _)
    · by_cases g2 : m ≤ 1099511627776
      · obtain ⟨t, ht⟩ := markText_l0 m.toNat m ⟨#[]⟩ (Nat.le_refl _) (by omega) (by rw [show (⟨#[]⟩ : ByteArray).size = 0 from rfl]; omega)
        refine ⟨t, fun _ => ?_⟩
        unfold laws_markText.f
        exact ev_else g ht
      · exact ⟨⟨#[]⟩, fun h => absurd h g2⟩
  exact ⟨fun m => Classical.choose (h m), fun m => Classical.choose_spec (h m)⟩
def marksOf (T : Int → ByteArray) (n : Nat) : List ByteArray := (List.range n).map fun (i : Nat) => T (1 + (i : Int))
theorem marksOf_len (T : Int → ByteArray) (n : Nat) : (marksOf T n).length = n := by simp [marksOf]
theorem markStringS_l0 {T : Int → ByteArray} (hT : ∀ m : Int, m ≤ 1099511627776 → Ev (fun k => laws_markText.f k m) (T m)) (n : Nat) (hn : n ≤ 1048576) (d : Nat) : ∀ (j : Nat) (ys : List ByteArray), ys.length = n → (∀ i (h : i < ys.length), i < j → ys[i] = T (1 + (i : Int))) → j + d = n →
    Ev (fun k => laws_markStringS.l0 k ys (1 + (j : Int)) (j : Int)) (1 + (n : Int), marksOf T n) := by
  induction d with
  | zero =>
    intro j ys hl hv hj
    obtain rfl : j = n := by omega
    have e : ys = marksOf T j := List.ext_getElem (by rw [hl, marksOf_len]) (fun i h h' => by rw [hv i h (by omega)]; simp [marksOf])
    refine Ev.step (fun k => rfl) ?_
    simp only [laws_markStringS.l0]
    rw [e]
    exact ev_else (by rw [marksOf_len]; omega) (Ev.now _)
  | succ d ih =>
    intro j ys hl hv hj
    have h := ih (j + 1) (ys.set j (T (1 + (j : Int)))) (by simp [hl]) (by
      intro i h hi
      rw [List.getElem_set]
      by_cases e : j = i
      · subst e; simp
      · rw [if_neg e]; exact hv i (by simpa using h) (by omega)) (by omega)
    rw [show 1 + ((j + 1 : Nat) : Int) = 1 + (j : Int) + 1 by omega] at h
    refine Ev.step (fun k => rfl) ?_
    simp only [laws_markStringS.l0]
    refine ev_if (by omega) (Ev.bind (hT _ (by omega)) (ev_if (by omega) ?_))
    rw [Int.toNat_natCast, w64 (x := 1 + (j : Int) + 1) (by omega) (by omega), w64s (by omega)]
    exact h
theorem markStringS_ev {T : Int → ByteArray} (hT : ∀ m : Int, m ≤ 1099511627776 → Ev (fun k => laws_markText.f k m) (T m)) (xs : List ByteArray) (hn : xs.length ≤ 1048576) : Ev (fun k => laws_markStringS.f k xs 1) (1 + (xs.length : Int), marksOf T xs.length) :=
  markStringS_l0 hT xs.length hn xs.length 0 xs rfl (fun i _ hi => absurd hi (Nat.not_lt_zero _)) (by omega)

theorem rd_nat (xs : List Int) (j : Nat) (h : j < xs.length) : rd xs (j : Int) = xs[j] := by
  simp [rd, List.getD_eq_getElem?_getD, List.getElem?_eq_getElem h]
theorem eqIntS_l0 (xs ys : List Int) (hl : xs.length = ys.length) (hx : xs.length ≤ 1099511627776) (d : Nat) : ∀ (j : Nat), (∀ i (h : i < xs.length) (h' : i < ys.length), i < j → xs[i] = ys[i]) → j ≤ xs.length → xs.length - j = d →
    Ev (fun k => laws_eqIntS.l0 k xs ys (j : Int)) (decide (xs = ys)) := by
  induction d with
  | zero =>
    intro j hv hj hd
    have e : xs = ys := List.ext_getElem hl (fun i h h' => hv i h h' (by omega))
    refine Ev.step (fun k => by simp only [laws_eqIntS.l0]; rw [if_neg (by omega)]) ?_
    simpa [e] using Ev.now true
  | succ d ih =>
    intro j hv hj hd
    have hj1 : j < xs.length := by omega
    have hj2 : j < ys.length := by omega
    by_cases e : xs[j] = ys[j]
    · refine Ev.step (f := fun k => laws_eqIntS.l0 k xs ys ((j + 1 : Nat) : Int)) (fun k => ?_) (ih (j + 1) ?_ (by omega) (by omega))
      · simp only [laws_eqIntS.l0]
        rw [if_pos (by omega), if_pos (by omega), if_pos (by omega), rd_nat xs j hj1, rd_nat ys j hj2, if_pos e, w64s (by omega)]
      · intro i h h' hi
        by_cases e2 : i = j
        · subst e2; exact e
        · exact hv i h h' (by omega)
    · have hne : decide (xs = ys) = false := by
        simp only [decide_eq_false_iff_not]
        rintro rfl
        exact e rfl
      rw [hne]
      refine Ev.step (fun k => ?_) (Ev.now false)
      simp only [laws_eqIntS.l0]
      rw [if_pos (by omega), if_pos (by omega), if_pos (by omega), rd_nat xs j hj1, rd_nat ys j hj2, if_neg e]
theorem eqIntS_ev (xs ys : List Int) (hx : xs.length ≤ 1099511627776) : Ev (fun k => laws_eqIntS.f k xs ys) (decide (xs = ys)) := by
  unfold laws_eqIntS.f
  by_cases h : xs.length = ys.length
  · refine ev_if (by omega) ?_
    exact eqIntS_l0 xs ys h hx xs.length 0 (fun i _ _ hi => absurd hi (Nat.not_lt_zero _)) (by omega) (by omega)
  · refine ev_else (by omega) ?_
    have hne : decide (xs = ys) = false := by
      simp only [decide_eq_false_iff_not]
      rintro rfl
      exact h rfl
    rw [hne]
    exact Ev.now false
theorem eqIntS_self (xs : List Int) (hx : xs.length ≤ 1099511627776) : Ev (fun k => laws_eqIntS.f k xs xs) true := by
  have := eqIntS_ev xs xs hx
  simpa using this

/-- m, m + 1, .. : n numbers. -/
def upFrom : Nat → Int → List Int
  | 0, _ => []
  | n + 1, m => m :: upFrom n (m + 1)
theorem upFrom_len (n : Nat) : ∀ m, (upFrom n m).length = n := by
  induction n with
  | zero => intro m; rfl
  | succ n ih => intro m; simp [upFrom, ih]
theorem upFrom_get (n : Nat) : ∀ (m : Int) (i : Nat) (h : i < (upFrom n m).length), (upFrom n m)[i] = m + i := by
  induction n with
  | zero => intro m i h; simp [upFrom] at h
  | succ n ih =>
    intro m i h
    cases i with
    | zero => simp [upFrom]
    | succ i =>
      simp only [upFrom, List.getElem_cons_succ]
      rw [ih (m + 1) i (by simpa [upFrom] using h)]
      omega
theorem upFrom_rd (n : Nat) (m : Int) (i : Nat) (h : i < n) : rd (upFrom n m) (i : Int) = m + i := by
  have h' : i < (upFrom n m).length := by rw [upFrom_len]; exact h
  rw [rd_nat _ _ h', upFrom_get]
theorem markIntS_l0 (n : Nat) (m0 : Int) (hm0 : 0 ≤ m0) (hm : m0 + n ≤ 1099511627776) (d : Nat) : ∀ (j : Nat) (ys : List Int), ys.length = n → (∀ i (h : i < ys.length), i < j → ys[i] = m0 + i) → j ≤ n → n - j = d →
    Ev (fun k => laws_markIntS.l0 k ys (m0 + j) (j : Int)) (m0 + n, upFrom n m0) := by
  induction d with
  | zero =>
    intro j ys hl hv hj hd
    obtain rfl : j = n := by omega
    have e : ys = upFrom j m0 := List.ext_getElem (by rw [hl, upFrom_len]) (fun i h h' => by rw [hv i h (by omega), upFrom_get])
    rw [e]
    refine Ev.step (fun k => ?_) (Ev.now _)
    simp only [laws_markIntS.l0]
    rw [if_neg (by rw [upFrom_len]; omega)]
  | succ d ih =>
    intro j ys hl hv hj hd
    have h := ih (j + 1) (ys.set j (m0 + j)) (by simp [hl]) (by
      intro i h hi
      rw [List.getElem_set]
      by_cases e : j = i
      · subst e; simp
      · rw [if_neg e]; exact hv i (by simpa using h) (by omega)) (by omega) (by omega)
    rw [show m0 + ((j + 1 : Nat) : Int) = m0 + (j : Int) + 1 by omega] at h
    refine Ev.step (fun k => ?_) h
    simp only [laws_markIntS.l0]
    rw [if_pos (by omega), if_pos (by omega), Int.toNat_natCast, w64 (x := m0 + (j : Int) + 1) (by omega) (by omega), w64s (by omega)]
theorem mark_ev (xs : List Int) (m : Int) (hm : 0 ≤ m) (hl : m + xs.length ≤ 1099511627776) : Ev (fun k => laws_markIntS.f k xs m) (m + xs.length, upFrom xs.length m) := by
  have h := markIntS_l0 xs.length m hm hl xs.length 0 xs rfl (fun i _ hi => absurd hi (Nat.not_lt_zero _)) (by omega) (by omega)
  rw [show m + ((0 : Nat) : Int) = m by omega] at h
  exact h
theorem heldIntS_l0 (n : Nat) (m0 : Int) (hm0 : 0 ≤ m0) (hm : m0 + n ≤ 1099511627776) (d : Nat) : ∀ (j : Nat), j ≤ n → n - j = d → Ev (fun k => laws_heldIntS.l0 k (upFrom n m0) (m0 + j) (j : Int)) (m0 + n) := by
  induction d with
  | zero =>
    intro j hj hd
    obtain rfl : j = n := by omega
    refine Ev.step (fun k => ?_) (Ev.now _)
    simp only [laws_heldIntS.l0]
    rw [if_neg (by rw [upFrom_len]; omega)]
  | succ d ih =>
    intro j hj hd
    have h := ih (j + 1) (by omega) (by omega)
    rw [show m0 + ((j + 1 : Nat) : Int) = m0 + (j : Int) + 1 by omega] at h
    refine Ev.step (fun k => ?_) h
    simp only [laws_heldIntS.l0]
    rw [if_pos (by rw [upFrom_len]; omega), if_pos (by omega), upFrom_rd n m0 j (by omega), if_pos rfl, w64 (x := m0 + (j : Int) + 1) (by omega) (by omega), w64s (by omega)]
theorem held_ev (n : Nat) (m : Int) (hm : 0 ≤ m) (hl : m + n ≤ 1099511627776) : Ev (fun k => laws_heldIntS.f k (upFrom n m) m) (m + n) := by
  have h := heldIntS_l0 n m hm hl n 0 (by omega) (by omega)
  rw [show m + ((0 : Nat) : Int) = m by omega] at h
  exact h

/-! ### boxes -/
/-- The signs of a box. -/
def okByte (b : UInt8) : Bool := b == 111 || b == 120
def okBox (s : ByteArray) : Bool := decide (1 ≤ (s.size : Int) ∧ (s.size : Int) ≤ 60) && s.data.toList.all okByte
theorem bxBox_l0 (s : ByteArray) (hs : s.size ≤ 1048576) (d : Nat) : ∀ j : Nat, j + d = s.size → Ev (fun k => spec_bxBox.l0 k s (j : Int)) ((s.data.toList.drop j).all okByte) := by
  have hl := sz_list s
  induction d with
  | zero =>
    intro j hj
    refine Ev.step (fun k => rfl) ?_
    simp only [spec_bxBox.l0]
    rw [List.drop_of_length_le (by omega)]
    exact ev_else (by omega) (Ev.now _)
  | succ d ih =>
    intro j hj
    have hj' : j < s.data.toList.length := by omega
    rw [List.drop_eq_getElem_cons hj', List.all_cons]
    refine Ev.step (fun k => rfl) ?_
    simp only [spec_bxBox.l0]
    rw [bt_list s j hj', w64s (by omega)]
    have h1 := u8_eq (s.data.toList[j]) 111 111 rfl
    have h2 := u8_eq (s.data.toList[j]) 120 120 rfl
    refine ev_if (by omega) (ev_if (by omega) ?_)
    by_cases c1 : s.data.toList[j] = 111
    · have e : okByte s.data.toList[j] = true := by rw [c1]; rfl
      rw [e, Bool.true_and]
      exact ev_if (h1.mpr c1) (ih (j + 1) (by omega))
    · by_cases c2 : s.data.toList[j] = 120
      · have e : okByte s.data.toList[j] = true := by rw [c2]; rfl
        rw [e, Bool.true_and]
        exact ev_else (fun h => c1 (h1.mp h)) (ev_if (h2.mpr c2) (ih (j + 1) (by omega)))
      · have e : okByte s.data.toList[j] = false := by unfold okByte; rw [beq_false_of_ne c1, beq_false_of_ne c2]; rfl
        rw [e, Bool.false_and]
        exact ev_else (fun h => c1 (h1.mp h)) (ev_else (fun h => c2 (h2.mp h)) (Ev.now _))
theorem bxBox_ev (s : ByteArray) (hs : s.size ≤ 1048576) : Ev (fun k => spec_bxBox.f k s) (okBox s) := by
  unfold spec_bxBox.f okBox
  rw [l1In_eq]
  simp only [Option.bind_some]
  by_cases h : 1 ≤ (s.size : Int) ∧ (s.size : Int) ≤ 60
  · rw [decide_eq_true h, Bool.true_and]
    exact ev_if rfl (bxBox_l0 s hs s.size 0 (by omega))
  · rw [decide_eq_false h, Bool.false_and]
    exact ev_else (by simp) (Ev.now _)
theorem isTested_eq (s : ByteArray) (hs : s.size ≤ 1048576) : impl_isTested.f s = some (okBox s) := by
  unfold impl_isTested.f okBox
  rw [within_eq]
  simp only [Option.bind_some]
  by_cases h : 1 ≤ (s.size : Int) ∧ (s.size : Int) ≤ 60
  · rw [decide_eq_true h, if_pos rfl, Bool.true_and]
    unfold strings_Trim.f
    rw [if_pos ⟨by omega, by decide, by decide⟩]
    simp only [Option.bind_some, Option.some.injEq]
    rw [ByteArray.toList_eq]
    show (Lib.trimS s.data.toList [111, 120] == []) = _
    rw [trimS_all]
    congr 1
    funext b
    unfold okByte
    rw [List.contains_cons, List.contains_cons, List.contains_nil, Bool.or_false]
  · rw [decide_eq_false h, if_neg (by simp), Bool.false_and]

theorem indexByte_has (l : List UInt8) (c : UInt8) : decide (0 ≤ Lib.indexByte l c) = l.contains c := by
  induction l with
  | nil => rfl
  | cons b l ih =>
    have hg := Lib.indexByte_ge l c
    rw [List.contains_cons]
    unfold Lib.indexByte
    by_cases h : b = c
    · subst h; simp
    · have h' : ¬ c = b := fun e => h e.symm
      rw [if_neg (by simpa using h)]
      rw [show (c == b) = false from beq_false_of_ne h', Bool.false_or, ← ih]
      apply decide_eq_decide.mpr
      by_cases e : Lib.indexByte l c = -1
      · rw [if_pos (by simpa using e)]; omega
      · rw [if_neg (by simpa using e)]; omega

/-! ### rows and columns of a box -/
theorem bxBox_all (s : ByteArray) : Ev (fun k => spec_bxBox.f k s) (okBox s) := by
  by_cases h : s.size ≤ 1048576
  · exact bxBox_ev s h
  · unfold spec_bxBox.f okBox
    rw [l1In_eq]
    simp only [Option.bind_some]
    rw [decide_eq_false (by omega), Bool.false_and]
    exact ev_else (by simp) (Ev.now _)
theorem isTested_all (s : ByteArray) : impl_isTested.f s = some (okBox s) := by
  by_cases h : s.size ≤ 1048576
  · exact isTested_eq s h
  · unfold impl_isTested.f okBox
    rw [within_eq]
    simp only [Option.bind_some]
    rw [decide_eq_false (by omega), if_neg (by simp), Bool.false_and]
def hasB (s : ByteArray) : Bool := s.data.toList.contains 120
theorem contains_all (s : ByteArray) : strings_Contains.f s (⟨#[120]⟩ : ByteArray) = some (hasB s) := by
  unfold strings_Contains.f hasB
  rw [if_pos (show (⟨#[120]⟩ : ByteArray).size = 1 from rfl)]
  congr 1
  exact indexByte_has _ _
theorem okBox_asc (s : ByteArray) (h : okBox s = true) : s.size ≤ 60 ∧ ∀ p (hp : p < s.size), (s[p]'hp).toNat < 128 := by
  unfold okBox at h
  rw [Bool.and_eq_true, decide_eq_true_eq, List.all_eq_true] at h
  refine ⟨by omega, fun p hp => ?_⟩
  have hl := sz_list s
  have hm : s[p] ∈ s.data.toList := by
    have : s.data.toList[p]'(by omega) = s[p] := rfl
    rw [← this]
    exact List.getElem_mem _
  have h2 := h.2 _ hm
  unfold okByte at h2
  rw [Bool.or_eq_true, beq_iff_eq, beq_iff_eq] at h2
  rcases h2 with e | e <;> rw [e] <;> decide
/-! ### putting a number into a sorted list -/
theorem rd_app_left (A B : List Int) (j : Nat) (h : j < A.length) : rd (A ++ B) (j : Int) = A[j] := by
  rw [rd_nat _ j (by rw [List.length_append]; omega), List.getElem_append_left]
theorem rd_app_mid (A B : List Int) (n : Int) : rd (A ++ n :: B) (A.length : Int) = n := by
  rw [rd_nat _ A.length (by rw [List.length_append, List.length_cons]; omega), List.getElem_append_right (Nat.le_refl _)]
  simp
theorem put_new (A B : List Int) (n : Int) (hA : ∀ a ∈ A, a < n) (hB : ∀ b ∈ B, n < b) (hl : A.length + B.length ≤ 1000) (d : Nat) : ∀ j : Nat, j + d = A.length → Ev (fun k => spec_l1Put.l0 k (A ++ B) n (j : Int)) (A ++ n :: B) := by
  have htk : (A ++ B).take A.length = A := by simp
  have hdr : (A ++ B).drop A.length = B := by simp
  induction d with
  | zero =>
    intro j hj
    obtain rfl : j = A.length := by omega
    refine Ev.step (fun k => rfl) ?_
    simp only [spec_l1Put.l0, Option.bind_some, Int.toNat_natCast, htk, hdr, List.nil_append]
    rw [List.length_append]
    cases hb : B with
    | nil =>
      refine ev_else (by simp) (ev_if (by omega) (ev_if (by simp) (ev_if (by simp; omega) (ev_if (by omega) (ev_if (by simp; omega) ?_)))))
      rw [List.append_assoc]
      exact Ev.now _
    | cons b B' =>
      have hlt := hB b (by rw [hb]; simp)
      rw [hb] at hl
      rw [List.length_cons] at hl
      refine ev_if (by rw [List.length_cons]; omega) (ev_if (by omega) ?_)
      rw [rd_app_mid]
      refine ev_else (by omega) (ev_else (by omega) (ev_if (by rw [List.length_cons]; omega) (ev_if (by simp; omega) (ev_if (by omega) (ev_if (by simp; omega) ?_)))))
      rw [List.append_assoc]
      exact Ev.now _
  | succ d ih =>
    intro j hj
    have hjl : j < A.length := by omega
    have hlt := hA _ (List.getElem_mem hjl)
    refine Ev.step (fun k => rfl) ?_
    simp only [spec_l1Put.l0]
    rw [rd_app_left A B j hjl, w64s (by omega)]
    exact ev_if (by rw [List.length_append]; omega) (ev_if (by omega) (ev_if hlt (ih (j + 1) (by omega))))
theorem put_old (A B : List Int) (n : Int) (hA : ∀ a ∈ A, a < n) (hl : A.length + B.length ≤ 1000) (d : Nat) : ∀ j : Nat, j + d = A.length → Ev (fun k => spec_l1Put.l0 k (A ++ n :: B) n (j : Int)) (A ++ n :: B) := by
  induction d with
  | zero =>
    intro j hj
    obtain rfl : j = A.length := by omega
    refine Ev.step (fun k => rfl) ?_
    simp only [spec_l1Put.l0]
    rw [rd_app_mid]
    exact ev_if (by rw [List.length_append, List.length_cons]; omega) (ev_if (by omega) (ev_else (by omega) (ev_if rfl (Ev.now _))))
  | succ d ih =>
    intro j hj
    have hjl : j < A.length := by omega
    have hlt := hA _ (List.getElem_mem hjl)
    refine Ev.step (fun k => rfl) ?_
    simp only [spec_l1Put.l0]
    rw [rd_app_left A (n :: B) j hjl, w64s (by omega)]
    exact ev_if (by rw [List.length_append, List.length_cons]; omega) (ev_if (by omega) (ev_if hlt (ih (j + 1) (by omega))))
/-- The numbers below w of which something holds. -/
def cset (w : Nat) (p : Nat → Bool) : List Int := ((List.range w).filter p).map fun (c : Nat) => (c : Int)
theorem cset_congr (w : Nat) (p q : Nat → Bool) (h : ∀ c, c < w → p c = q c) : cset w p = cset w q := by
  unfold cset
  congr 1
  exact List.filter_congr (fun c hc => h c (List.mem_range.1 hc))
theorem range_split (w x : Nat) (hx : x < w) : List.range w = List.range x ++ x :: List.range' (x + 1) (w - x - 1) := by
  rw [List.range_eq_range', List.range_eq_range', show w = x + (1 + (w - x - 1)) by omega, ← List.range'_append_1]
  congr 1
  rw [Nat.zero_add, show x + (1 + (w - x - 1)) - x - 1 = w - x - 1 by omega, Nat.add_comm 1 _, List.range'_succ]
theorem cset_put (w : Nat) (p : Nat → Bool) (x : Nat) (hx : x < w) (hw : w ≤ 1000) : Ev (fun k => spec_l1Put.f k (cset w p) (x : Int)) (cset w (fun c => p c || c == x)) := by
  obtain ⟨A, hA⟩ : ∃ A, A = ((List.range x).filter p).map fun (c : Nat) => (c : Int) := ⟨_, rfl⟩
  obtain ⟨B, hB⟩ : ∃ B, B = ((List.range' (x + 1) (w - x - 1)).filter p).map fun (c : Nat) => (c : Int) := ⟨_, rfl⟩
  have hAl : ∀ a ∈ A, a < (x : Int) := by
    intro a ha
    rw [hA] at ha
    obtain ⟨c, hc, rfl⟩ := List.mem_map.1 ha
    have := List.mem_range.1 (List.mem_filter.1 hc).1
    omega
  have hBl : ∀ b ∈ B, (x : Int) < b := by
    intro b hb
    rw [hB] at hb
    obtain ⟨c, hc, rfl⟩ := List.mem_map.1 hb
    have := List.mem_range'_1.1 (List.mem_filter.1 hc).1
    omega
  have hlen : A.length + B.length ≤ 1000 := by
    rw [hA, hB, List.length_map, List.length_map]
    have h1 := List.length_filter_le p (List.range x)
    have h2 := List.length_filter_le p (List.range' (x + 1) (w - x - 1))
    rw [List.length_range] at h1
    rw [List.length_range'] at h2
    omega
  have e1 : cset w p = A ++ (if p x = true then [(x : Int)] else []) ++ B := by
    unfold cset
    rw [range_split w x hx, List.filter_append, List.map_append, hA, List.append_assoc]
    congr 1
    rw [List.filter_cons, hB]
    cases p x <;> simp
  have e2 : cset w (fun c => p c || c == x) = A ++ (x : Int) :: B := by
    unfold cset
    rw [range_split w x hx, List.filter_append, List.map_append, hA, hB, List.filter_cons, if_pos (by simp), List.map_cons]
    congr 1
    · congr 1
      exact List.filter_congr (fun c hc => by have := List.mem_range.1 hc; have : (c == x) = false := beq_false_of_ne (by omega); rw [this, Bool.or_false])
    · congr 2
      exact List.filter_congr (fun c hc => by have := List.mem_range'_1.1 hc; have : (c == x) = false := beq_false_of_ne (by omega); rw [this, Bool.or_false])
  rw [e1, e2]
  unfold spec_l1Put.f
  cases hp : p x with
  | true =>
    simp only [if_true]
    rw [List.append_assoc]
    exact put_old A B (x : Int) hAl hlen A.length 0 (by omega)
  | false =>
    simp only [Bool.false_eq_true, if_false, List.append_nil]
    exact put_new A B (x : Int) hAl hBl hlen A.length 0 (by omega)
def anyX (s : ByteArray) : Nat → Nat → Bool
  | 0, _ => false
  | d + 1, x => (bt s (x : Int) == 120) || anyX s d (x + 1)
theorem anyX_has (s : ByteArray) (d : Nat) : ∀ x : Nat, x + d = s.size → anyX s d x = (s.data.toList.drop x).contains 120 := by
  have hl := sz_list s
  induction d with
  | zero =>
    intro x hx
    rw [List.drop_of_length_le (by omega)]; rfl
  | succ d ih =>
    intro x hx
    have hxl : x < s.data.toList.length := by omega
    simp only [anyX]
    rw [ih (x + 1) (by omega), List.drop_eq_getElem_cons hxl, List.contains_cons, bt_list s x hxl]
    congr 1
    have h2 := u8_eq (s.data.toList[x]) 120 120 rfl
    rw [Bool.eq_iff_iff, beq_iff_eq, beq_iff_eq]
    exact ⟨fun h => (h2.1 h).symm, fun h => h2.2 h.symm⟩
theorem rcRow_ev (s : ByteArray) (w : Nat) (hw : s.size = w) (hw2 : w ≤ 1000) (y : Nat) (A : List Int) (hA : ∀ a ∈ A, a < (y : Int)) (hAl : A.length ≤ 900) (d : Nat) : ∀ (x : Nat) (p : Nat → Bool) (hit : Bool), x + d = w →
    Ev (fun k => rcRow k (y : Int) s d x (A ++ if hit = true then [(y : Int)] else []) (cset w p)) (A ++ (if (hit || anyX s d x) = true then [(y : Int)] else []), cset w (fun c => p c || (decide (x ≤ c) && (bt s (c : Int) == 120)))) := by
  induction d with
  | zero =>
    intro x p hit hx
    simp only [rcRow]
    rw [show (hit || anyX s 0 x) = hit by simp [anyX]]
    rw [cset_congr w p _ (fun c hc => show p c = (p c || (decide (x ≤ c) && (bt s (c : Int) == 120))) by rw [decide_eq_false (by omega), Bool.false_and, Bool.or_false])]
    exact Ev.now _
  | succ d ih =>
    intro x p hit hx
    simp only [rcRow]
    by_cases c : bt s (x : Int) = 120
    · have hcb : (bt s (x : Int) == 120) = true := beq_iff_eq.mpr c
      rw [show (hit || anyX s (d + 1) x) = true by simp [anyX, hcb]]
      have h1 := ih (x + 1) (fun c => p c || c == x) true (by omega)
      rw [Bool.true_or] at h1
      have h2 : Ev (fun k => spec_l1Put.f k (A ++ if hit = true then [(y : Int)] else []) (y : Int)) (A ++ if true = true then [(y : Int)] else []) := by
        unfold spec_l1Put.f
        cases hit with
        | true => exact put_old A [] (y : Int) hA (by simp; omega) A.length 0 (by omega)
        | false =>
          have := put_new A [] (y : Int) hA (fun b hb => by cases hb) (by simp; omega) A.length 0 (by omega)
          simpa using this
      refine ev_if c (Ev.bind h2 (Ev.bind (cset_put w p x (by omega) hw2) ?_))
      rw [cset_congr w (fun c => p c || (decide (x ≤ c) && (bt s (c : Int) == 120))) (fun c => (p c || c == x) || (decide (x + 1 ≤ c) && (bt s (c : Int) == 120))) (fun c' _ => ?_)]
      · exact h1
      · by_cases e : c' = x
        · subst e
          rw [decide_eq_true (Nat.le_refl _), hcb]
          simp
        · have e1 : (c' == x) = false := beq_false_of_ne e
          have e2 : decide (x ≤ c') = decide (x + 1 ≤ c') := by congr 1; exact propext ⟨fun h => by omega, fun h => by omega⟩
          rw [e1, e2, Bool.or_false]
    · have hcb : (bt s (x : Int) == 120) = false := beq_eq_false_iff_ne.mpr c
      rw [show anyX s (d + 1) x = anyX s d (x + 1) by simp only [anyX]; rw [hcb, Bool.false_or]]
      refine ev_else c ?_
      rw [cset_congr w (fun c => p c || (decide (x ≤ c) && (bt s (c : Int) == 120))) (fun c => p c || (decide (x + 1 ≤ c) && (bt s (c : Int) == 120))) (fun c' _ => ?_)]
      · exact ih (x + 1) p hit (by omega)
      · by_cases e : c' = x
        · subst e
          rw [hcb, Bool.and_false, Bool.and_false]
        · have e2 : decide (x ≤ c') = decide (x + 1 ≤ c') := by congr 1; exact propext ⟨fun h => by omega, fun h => by omega⟩
          rw [e2]
theorem rowsI_eq (l : List ByteArray) (n : Nat) : rcRowsI l hasB n = cset n (fun y => hasB (rdOf ByteArray.empty l (y : Int))) := rfl
theorem rowsI_lt (l : List ByteArray) (n : Nat) : ∀ a ∈ rcRowsI l hasB n, a < (n : Int) := by
  intro a ha
  obtain ⟨c, hc, rfl⟩ := List.mem_map.1 ha
  have := List.mem_range.1 (List.mem_filter.1 hc).1
  omega
theorem rcAll_ev (l : List ByteArray) (w : Nat) (hw2 : w ≤ 1000) (hl : l.length ≤ 100) (hs : ∀ j : Nat, j < l.length → (rdOf ByteArray.empty l (j : Int)).size = w) (d : Nat) : ∀ y : Nat, y + d = l.length →
    Ev (fun k => rcAll k l d y (rcRowsI l hasB y) (cset w (fun c => (l.take y).any (rcX c)))) (rcRowsI l hasB l.length, cset w (fun c => l.any (rcX c))) := by
  induction d with
  | zero =>
    intro y hy
    obtain rfl : y = l.length := by omega
    simp only [rcAll]
    rw [List.take_of_length_le (Nat.le_refl _)]
    exact Ev.now _
  | succ d ih =>
    intro y hy
    have hyl : y < l.length := by omega
    have hsz := hs y hyl
    obtain ⟨s, hse⟩ : ∃ s, s = rdOf ByteArray.empty l (y : Int) := ⟨_, rfl⟩
    rw [← hse] at hsz
    have hlen : (rcRowsI l hasB y).length ≤ 900 := by
      unfold rcRowsI
      rw [List.length_map]
      have := List.length_filter_le (fun (y : Nat) => hasB (rdOf ByteArray.empty l (y : Int))) (List.range y)
      rw [List.length_range] at this
      omega
    have h1 := rcRow_ev s w hsz hw2 y (rcRowsI l hasB y) (rowsI_lt l y) hlen w 0 (fun c => (l.take y).any (rcX c)) false (by omega)
    have hax := anyX_has s w 0 (by omega)
    rw [List.drop_zero] at hax
    simp only [Bool.false_eq_true, if_false, List.append_nil, Bool.false_or] at h1
    have h2 := ih (y + 1) (by omega)
    have e1 : rcRowsI l hasB (y + 1) = rcRowsI l hasB y ++ (if anyX s w 0 = true then [(y : Int)] else []) := by
      have h3 := rc_filter_snoc (fun (y : Nat) => hasB (rdOf ByteArray.empty l (y : Int))) y
      have h4 : hasB s = anyX s w 0 := hax.symm
      rw [← h4, hse]
      show rcRowsI l hasB (y + 1) = _
      unfold rcRowsI
      rw [h3]
      by_cases c : hasB (rdOf ByteArray.empty l (y : Int)) = true
      · rw [if_pos c, if_pos c]
      · rw [if_neg c, if_neg c, List.append_nil]
    have e2 : cset w (fun c => (l.take (y + 1)).any (rcX c)) = cset w (fun c => (l.take y).any (rcX c) || (decide (0 ≤ c) && (bt s (c : Int) == 120))) := by
      refine cset_congr w _ _ (fun c _ => ?_)
      rw [List.take_succ_eq_append_getElem hyl, List.any_append]
      congr 1
      rw [decide_eq_true (Nat.zero_le _), Bool.true_and, hse, rdOf_nat _ l y hyl]
      simp [rcX]
    rw [e1, e2] at h2
    simp only [rcAll]
    rw [← hse, hsz]
    exact Ev.bind h1 h2
theorem bxBox_each (l : List ByteArray) : ∃ K, ∀ k, K ≤ k → ∀ s ∈ l, spec_bxBox.f k s = some (okBox s) := by
  induction l with
  | nil => exact ⟨0, fun k _ s hs => by cases hs⟩
  | cons s l ih =>
    obtain ⟨Ka, ka⟩ := ih
    obtain ⟨Kb, kb⟩ := bxBox_all s
    refine ⟨Ka + Kb, fun k hk x hx => ?_⟩
    rcases List.mem_cons.1 hx with rfl | hx
    · exact kb k (by omega)
    · exact ka k (by omega) x hx
theorem FnExactRowsAndColumns : laws_FnExactRowsAndColumns.Pure := by
  intro l h1 _ h3
  obtain ⟨r, ⟨K1, k1⟩, hr2⟩ := szS_ev l h1 h3
  by_cases c : r < 0
  · exact ⟨K1, r, k1 _ (Nat.le_refl _), Or.inl c⟩
  have hl := hr2 c
  obtain ⟨T, hT⟩ := markText_ev
  obtain ⟨K4, k4⟩ := toS_ev l hl
  obtain ⟨K6, k6⟩ := eqStringS_self l hl
  obtain ⟨K7, k7⟩ := markStringS_ev hT l hl
  obtain ⟨K8, k8⟩ := bxBox_each l
  have hold : ∃ (g0 g1 : List Int) (a : Int) (b : Bool), g0.length ≤ 1000 ∧ g1.length ≤ 1000 ∧ ∃ K, ∀ k, K ≤ k → rcTold k l g0 g1 a b := by
    by_cases hn : 1 ≤ l.length ∧ l.length ≤ 20
    · have hin : spec_l1In.f (l.length : Int) 1 20 = some true := by rw [l1In_eq, decide_eq_true (by omega)]
      cases hall : l.all (rcOk okBox (rdOf ByteArray.empty l 0).size) with
      | false => exact ⟨[], [], 0, false, by simp, by simp, K8, fun k hk => ⟨okBox, hasB, k8 k hk, fun s _ => isTested_all s, fun s _ => contains_all s, fun s _ => okBox_asc s, Or.inr (Or.inl ⟨hn, hin, hall, rfl, rfl, rfl, rfl⟩)⟩⟩
      | true =>
        have hrow : ∀ s ∈ l, okBox s = true ∧ s.size = (rdOf ByteArray.empty l 0).size := by
          intro s hs
          have := List.all_eq_true.1 hall s hs
          unfold rcOk at this
          rw [Bool.and_eq_true] at this
          exact ⟨this.1, of_decide_eq_true this.2⟩
        have hw : (rdOf ByteArray.empty l 0).size ≤ 60 := by
          have e : rdOf ByteArray.empty l 0 = l[0] := rdOf_nat _ l 0 (by omega)
          rw [e]
          exact (okBox_asc _ (hrow _ (List.getElem_mem _)).1).1
        obtain ⟨K9, k9⟩ := rcAll_ev l (rdOf ByteArray.empty l 0).size (by omega) (by omega) (fun j hj => by rw [rdOf_nat _ l j hj]; exact (hrow _ (List.getElem_mem hj)).2) l.length 0 (by omega)
        have e0 : cset (rdOf ByteArray.empty l 0).size (fun c => (l.take 0).any (rcX c)) = [] := by simp [cset]
        have l0 : (rcRowsI l hasB l.length).length ≤ l.length := by
          rw [rowsI_eq]
          unfold cset
          rw [List.length_map]
          exact Nat.le_trans (List.length_filter_le _ _) (by rw [List.length_range]; exact Nat.le_refl _)
        have l1 : (rcColsI l (rdOf ByteArray.empty l 0).size).length ≤ 60 := by
          unfold rcColsI
          rw [List.length_map]
          exact Nat.le_trans (List.length_filter_le _ _) (by rw [List.length_range]; exact hw)
        refine ⟨rcRowsI l hasB l.length, rcColsI l (rdOf ByteArray.empty l 0).size, _, true, by omega, by omega, K8 + K9, fun k hk => ⟨okBox, hasB, k8 k (by omega), fun s _ => isTested_all s, fun s _ => contains_all s, fun s _ => okBox_asc s, Or.inr (Or.inr ⟨hn, hin, hall, ?_, rfl, rfl, rfl, rfl⟩)⟩⟩
        have := k9 k (by omega)
        rw [e0] at this
        exact this
    · have hin : spec_l1In.f (l.length : Int) 1 20 = some false := by rw [l1In_eq, decide_eq_false (by omega)]
      exact ⟨[], [], 0, false, by simp, by simp, K8, fun k hk => ⟨okBox, hasB, k8 k hk, fun s _ => isTested_all s, fun s _ => contains_all s, fun s _ => okBox_asc s, Or.inl ⟨hn, hin, rfl, rfl, rfl, rfl⟩⟩⟩
  obtain ⟨g0, g1, a, b, hg0, hg1, K9, k9⟩ := hold
  obtain ⟨Ka, ka⟩ := eqIntS_self g0 (by omega)
  obtain ⟨Kb, kb⟩ := eqIntS_self g1 (by omega)
  obtain ⟨Kc, kc⟩ := mark_ev g0 1 (by omega) (by omega)
  obtain ⟨Kd, kd⟩ := mark_ev g1 (1 + (g0.length : Int)) (by omega) (by omega)
  obtain ⟨Ke, ke⟩ := held_ev g0.length 1 (by omega) (by omega)
  obtain ⟨Kf, kf⟩ := held_ev g1.length (1 + (g0.length : Int)) (by omega) (by omega)
  obtain ⟨K, hK⟩ : ∃ K, K = K1 + K4 + K6 + K7 + K8 + K9 + Ka + Kb + Kc + Kd + Ke + Kf := ⟨_, rfl⟩
  exact ⟨K, r, k1 K (by omega), Or.inr ⟨c, g0, g1, a, b, _, _, _, _, _, _, k9 K (by omega), k4 K (by omega), ka K (by omega), kb K (by omega), k6 K (by omega), k7 K (by omega), by omega, kc K (by omega), kd K (by omega), ke K (by omega), by omega, kf K (by omega), by omega⟩⟩

end Go.Proofs.YtghfhcmjnpjgdaaDoor.Pure
