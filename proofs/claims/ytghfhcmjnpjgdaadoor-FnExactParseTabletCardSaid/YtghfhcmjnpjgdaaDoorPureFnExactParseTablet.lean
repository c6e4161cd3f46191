/- For every text the program's ParseTablet returns what the reference's ParseTablet returns. Condition: the package variables unicode/utf8.first and unicode/utf8.acceptRanges hold what the library's text lays. -/
import Derived.Test.YtghfhcmjnpjgdaaDoorP6
namespace Go.Proofs.YtghfhcmjnpjgdaaDoor.Pure
open Go.RowKit Go.Proofs.YtghfhcmjnpjgdaaDoor.P Go.Proofs.YtghfhcmjnpjgdaaDoorW.PrintWords Go.Proofs.YtghfhcmjnpjgdaaDoorW.PrintLast
set_option linter.unusedVariables false
set_option linter.unusedSimpArgs false

theorem w64 {x : Int} (h0 : -9223372036854775808 ≤ x) (h1 : x ≤ 9223372036854775807) : wrap64 x = x := by
  unfold wrap64
  omega
theorem wf_i64 {x : Int} (h : (Lit.int .i64 x).wf = true) : -9223372036854775808 ≤ x ∧ x ≤ 9223372036854775807 := by
  have hmin : IntKind.i64.min = -9223372036854775808 := rfl
  have hmax : IntKind.i64.max = 9223372036854775807 := rfl
  simp only [Lit.wf, Bool.and_eq_true, decide_eq_true_eq] at h
  omega

theorem two {α β : Type} {g : Nat → Option α} {f : Nat → Option β} {a : α} {b : β} (h : Ev g a) (h' : Ev f b) : ∃ k, g k = some a ∧ f k = some b := by
  obtain ⟨K, h⟩ := h
  obtain ⟨K', h'⟩ := h'
  exact ⟨max K K', h _ (by omega), h' _ (by omega)⟩
theorem str_app (xs ys : List Int) : strOfNums (xs ++ ys) = strOfNums xs ++ strOfNums ys := by
  apply ByteArray.ext
  simp [strOfNums]
theorem str_nil : strOfNums [] = (⟨#[]⟩ : ByteArray) := rfl
theorem str_size (xs : List Int) : (strOfNums xs).size = xs.length := by simp [strOfNums, ByteArray.size]
theorem ba_nil_app (b : ByteArray) : (⟨#[]⟩ : ByteArray) ++ b = b := by
  apply ByteArray.ext
  simp
theorem ba_app_nil (b : ByteArray) : b ++ (⟨#[]⟩ : ByteArray) = b := by
  apply ByteArray.ext
  simp
theorem ba_assoc (a b c : ByteArray) : a ++ b ++ c = a ++ (b ++ c) := by
  apply ByteArray.ext
  simp
theorem ev_if {α : Type} {c : Prop} [Decidable c] {g f : Nat → Option α} {r : α} (hc : c) (h : Ev g r) : Ev (fun k => if c then g k else f k) r :=
  Ev.congr (fun k => if_pos hc) h
theorem ev_else {α : Type} {c : Prop} [Decidable c] {g f : Nat → Option α} {r : α} (hc : ¬ c) (h : Ev f r) : Ev (fun k => if c then g k else f k) r :=
  Ev.congr (fun k => if_neg hc) h
theorem ev_bind {α β : Type} {a : α} {o : Option α} {f : Nat → α → Option β} {r : β} (h : o = some a) (k : Ev (fun n => f n a) r) : Ev (fun n => o.bind (f n)) r :=
  Ev.congr (fun n => by rw [h]; rfl) k

theorem l1In_eq (a b c : Int) : spec_l1In.f a b c = some (decide (b ≤ a ∧ a ≤ c)) := by
  unfold spec_l1In.f
  by_cases h : b ≤ a
  · rw [if_pos (show a ≥ b from h)]; simp [h]
  · rw [if_neg (show ¬ a ≥ b from h)]; simp [h]
theorem within_eq (a b c : Int) : impl_within.f a b c = some (decide (b ≤ a ∧ a ≤ c)) := by
  unfold impl_within.f
  by_cases h : b ≤ a
  · rw [if_pos h]; simp [h]
  · rw [if_neg h]; simp [h]
theorem within_l1In (a b c : Int) : impl_within.f a b c = spec_l1In.f a b c := by rw [within_eq, l1In_eq]

/-! ### Texts -/
theorem w64s {j : Nat} (h : j < 9223372036854775807) : wrap64 ((j : Int) + 1) = ((j + 1 : Nat) : Int) := by
  rw [w64 (by omega) (by omega)]; omega
theorem rdOf_nat {α : Type} (d : α) (xs : List α) (j : Nat) (h : j < xs.length) : rdOf d xs (j : Int) = xs[j] := by
  simp [rdOf, List.getD_eq_getElem?_getD, List.getElem?_eq_getElem h]
theorem eqStringS_l0 (xs : List ByteArray) (hx : xs.length ≤ 1048576) (d : Nat) : ∀ j : Nat, j + d = xs.length → Ev (fun k => laws_eqStringS.l0 k xs xs (j : Int)) true := by
  induction d with
  | zero =>
    intro j hj
    refine Ev.step (fun k => rfl) ?_
    simp only [laws_eqStringS.l0]
    exact ev_else (by omega) (Ev.now _)
  | succ d ih =>
    intro j hj
    refine Ev.step (fun k => rfl) ?_
    simp only [laws_eqStringS.l0]
    refine ev_if (by omega) (ev_if (by omega) (ev_if (by omega) (ev_if ?_ ?_)))
    · first | rfl | trivial
    rw [w64s (by omega)]
    exact ih (j + 1) (by omega)
theorem eqStringS_self (xs : List ByteArray) (hx : xs.length ≤ 1048576) : Ev (fun k => laws_eqStringS.f k xs xs) true := by
  unfold laws_eqStringS.f
  exact ev_if rfl (eqStringS_l0 xs hx xs.length 0 (by omega))

/-! ### Bytes of a text -/
theorem sz_list (s : ByteArray) : s.data.toList.length = s.size := by rw [Array.length_toList]; rfl
theorem bt_list (s : ByteArray) (j : Nat) (h : j < s.data.toList.length) : bt s (j : Int) = ((s.data.toList[j]'h).toNat : Int) := by
  rw [sz_list] at h
  unfold bt
  rw [dif_pos (by rw [Int.toNat_natCast]; exact h)]
  simp only [Int.toNat_natCast]
  rfl
theorem u8_eq (b : UInt8) (n : Nat) (c : UInt8) (hc : c.toNat = n) : ((b.toNat : Int) = (n : Int)) ↔ b = c := by
  constructor
  · intro h
    apply UInt8.toNat_inj.mp
    omega
  · rintro rfl
    rw [hc]
theorem dw_nil {α : Type} (p : α → Bool) (l : List α) : l.all p = true → l.dropWhile p = [] := by
  induction l with
  | nil => intro _; rfl
  | cons a l ih =>
    intro h
    rw [List.all_cons, Bool.and_eq_true] at h
    rw [List.dropWhile_cons, if_pos h.1]
    exact ih h.2
theorem dw_all {α : Type} (p : α → Bool) (l : List α) : (l.dropWhile p).all p = true → l.all p = true := by
  induction l with
  | nil => intro _; rfl
  | cons a l ih =>
    intro h
    rw [List.dropWhile_cons] at h
    by_cases c : p a = true
    · rw [if_pos c] at h
      rw [List.all_cons, c, ih h]; rfl
    · rw [if_neg c] at h
      exact h
theorem trimS_all (l cs : List UInt8) : (Lib.trimS l cs == []) = l.all (cs.contains ·) := by
  cases h : l.all (cs.contains ·) with
  | true =>
    have hr : l.reverse.all (cs.contains ·) = true := by rw [List.all_reverse]; exact h
    have e : Lib.trimRightS l cs = [] := by
      unfold Lib.trimRightS
      rw [dw_nil _ _ hr]; rfl
    unfold Lib.trimS
    rw [e]
    rfl
  | false =>
    rw [beq_eq_false_iff_ne]
    intro e
    have h1 : (Lib.trimRightS l cs).all (cs.contains ·) = true := by
      refine dw_all _ _ ?_
      have e' : List.dropWhile (cs.contains ·) (Lib.trimRightS l cs) = [] := e
      rw [e']
      rfl
    have h2 : (l.reverse.dropWhile (cs.contains ·)).all (cs.contains ·) = true := by
      have h3 := h1
      unfold Lib.trimRightS at h3
      rw [List.all_reverse] at h3
      exact h3
    have h4 := dw_all _ _ h2
    rw [List.all_reverse, h] at h4
    cases h4

/-! ### Tablets -/
def okSq (b : UInt8) : Bool := b == 35 || b == 46
def okRow (n : Nat) (r : ByteArray) : Bool := decide (r.size = n) && r.data.toList.all okSq
def good (l : List ByteArray) : Bool :=
  decide (1 ≤ (l.length : Int) ∧ (l.length : Int) ≤ 10) && (decide (1 ≤ ((rdOf ByteArray.empty l 0).size : Int) ∧ ((rdOf ByteArray.empty l 0).size : Int) ≤ 10) && l.all (okRow (rdOf ByteArray.empty l 0).size))
theorem mlGood_l1 (l : List ByteArray) (r : ByteArray) (hr : r.size ≤ 1048576) (i : Int) (n : Nat) (b : Bool) (hE : Ev (fun k => spec_mlGood.l0 k l l (n : Int) (wrap64 (i + 1))) b) (d : Nat) :
    ∀ j : Nat, j + d = r.size → Ev (fun k => spec_mlGood.l1 k l r (j : Int) l (n : Int) i) ((r.data.toList.drop j).all okSq && b) := by
  have hl := sz_list r
  induction d with
  | zero =>
    intro j hj
    refine Ev.step (fun k => rfl) ?_
    simp only [spec_mlGood.l1]
    rw [List.drop_of_length_le (by omega)]
    exact ev_else (by omega) hE
  | succ d ih =>
    intro j hj
    have hj' : j < r.data.toList.length := by omega
    rw [List.drop_eq_getElem_cons hj', List.all_cons]
    refine Ev.step (fun k => rfl) ?_
    simp only [spec_mlGood.l1]
    rw [bt_list r j hj', w64s (by omega)]
    have h1 := u8_eq (r.data.toList[j]) 35 35 rfl
    have h2 := u8_eq (r.data.toList[j]) 46 46 rfl
    refine ev_if (by omega) (ev_if (by omega) ?_)
    by_cases c1 : r.data.toList[j] = 35
    · have e : okSq r.data.toList[j] = true := by rw [c1]; rfl
      rw [e, Bool.true_and]
      exact ev_if (h1.mpr c1) (ih (j + 1) (by omega))
    · by_cases c2 : r.data.toList[j] = 46
      · have e : okSq r.data.toList[j] = true := by rw [c2]; rfl
        rw [e, Bool.true_and]
        exact ev_else (fun h => c1 (h1.mp h)) (ev_if (h2.mpr c2) (ih (j + 1) (by omega)))
      · have e : okSq r.data.toList[j] = false := by unfold okSq; rw [beq_false_of_ne c1, beq_false_of_ne c2]; rfl
        rw [e, Bool.false_and, Bool.false_and]
        exact ev_else (fun h => c1 (h1.mp h)) (ev_else (fun h => c2 (h2.mp h)) (Ev.now _))
theorem mlGood_l0 (l : List ByteArray) (hx : l.length ≤ 1048576) (hn : (rdOf ByteArray.empty l 0).size ≤ 1048576) (d : Nat) :
    ∀ j : Nat, j + d = l.length → Ev (fun k => spec_mlGood.l0 k l l (l.length : Int) (j : Int)) ((l.drop j).all (okRow (rdOf ByteArray.empty l 0).size)) := by
  induction d with
  | zero =>
    intro j hj
    refine Ev.step (fun k => rfl) ?_
    simp only [spec_mlGood.l0]
    rw [List.drop_of_length_le (by omega)]
    exact ev_else (by omega) (Ev.now _)
  | succ d ih =>
    intro j hj
    have hl : j < l.length := by omega
    have hE := ih (j + 1) (by omega)
    rw [List.drop_eq_getElem_cons hl, List.all_cons]
    refine Ev.step (fun k => rfl) ?_
    simp only [spec_mlGood.l0]
    rw [rdOf_nat _ _ j hl]
    refine ev_if (by omega) (ev_if (by omega) (ev_if (by omega) (ev_if (by omega) ?_)))
    by_cases c : l[j].size = (rdOf ByteArray.empty l 0).size
    · refine ev_if (by omega) ?_
      have h := mlGood_l1 l l[j] (by omega) (j : Int) l.length _ (by rw [w64s (by omega)]; exact hE) l[j].size 0 (by omega)
      rw [List.drop_zero] at h
      unfold okRow at h ⊢
      rw [decide_eq_true c, Bool.true_and]
      exact h
    · refine ev_else (by omega) ?_
      rw [show okRow (rdOf ByteArray.empty l 0).size l[j] = false by unfold okRow; rw [decide_eq_false c]; rfl, Bool.false_and]
      exact Ev.now _
theorem mlGood_ev (l : List ByteArray) (hx : l.length ≤ 1048576) : Ev (fun k => spec_mlGood.f k l) (good l) := by
  unfold spec_mlGood.f good
  simp only [l1In_eq, Option.bind_some]
  by_cases c : 1 ≤ (l.length : Int) ∧ (l.length : Int) ≤ 10
  · refine ev_if (by simpa using c) (ev_if (by omega) ?_)
    rw [decide_eq_true c, Bool.true_and]
    refine Ev.step (fun k => rfl) ?_
    simp only [spec_mlGood.j0]
    by_cases c2 : 1 ≤ ((rdOf ByteArray.empty l 0).size : Int) ∧ ((rdOf ByteArray.empty l 0).size : Int) ≤ 10
    · rw [decide_eq_true c2, Bool.true_and]
      exact ev_else (by simp) (mlGood_l0 l hx (by omega) l.length 0 (by omega))
    · rw [decide_eq_false c2, Bool.false_and]
      exact ev_if rfl (Ev.now _)
  · refine ev_else (by simpa using c) ?_
    rw [decide_eq_false c, Bool.false_and]
    refine Ev.step (fun k => rfl) ?_
    simp only [spec_mlGood.j0]
    exact ev_if (by first | rfl | trivial) (Ev.now _)
theorem badRow_eq (n : Nat) (h : 1 ≤ (n : Int) ∧ (n : Int) ≤ 10) (x : ByteArray) : badRow n 10 (⟨#[35, 46]⟩ : ByteArray) x = !okRow n x := by
  unfold badRow okRow
  by_cases c : x.size = n
  · rw [decide_eq_true c, decide_eq_true (show 1 ≤ (x.size : Int) ∧ (x.size : Int) ≤ 10 by omega), ByteArray.toList_eq]
    show (!(Lib.trimS x.data.toList [35, 46]).isEmpty) = !(x.data.toList.all okSq)
    rw [show (Lib.trimS x.data.toList [35, 46]).isEmpty = (Lib.trimS x.data.toList [35, 46] == []) by cases Lib.trimS x.data.toList [35, 46] <;> rfl, trimS_all]
    congr 2
    funext b
    unfold okSq
    rw [List.contains_cons, List.contains_cons, List.contains_nil, Bool.or_false]
  · rw [decide_eq_false c]; rfl
theorem areRows_eq (l : List ByteArray) : impl_areRows.f l 10 (⟨#[35, 46]⟩ : ByteArray) = some (good l) := by
  unfold impl_areRows.f good
  rw [if_pos ⟨by omega, by decide, by decide⟩]
  congr 1
  by_cases c : 1 ≤ (l.length : Int) ∧ (l.length : Int) ≤ 10
  · congr 1
    by_cases c2 : 1 ≤ ((rdOf ByteArray.empty l 0).size : Int) ∧ ((rdOf ByteArray.empty l 0).size : Int) ≤ 10
    · rw [decide_eq_true c2, Bool.true_and, List.any_eq_not_all_not, Bool.not_not]
      congr 1
      funext x
      rw [badRow_eq _ c2, Bool.not_not]
    · rw [decide_eq_false c2, Bool.false_and]
      have h0 : 0 < l.length := by omega
      have e : rdOf ByteArray.empty l 0 = l[0] := rdOf_nat _ l 0 h0
      have : l.any (badRow (rdOf ByteArray.empty l 0).size 10 (⟨#[35, 46]⟩ : ByteArray)) = true := by
        rw [List.any_eq_true]
        refine ⟨l[0], List.getElem_mem h0, ?_⟩
        rw [← e]
        unfold badRow
        rw [decide_eq_false c2]
        simp
      rw [this]; rfl
  · rw [decide_eq_false c, Bool.false_and, Bool.false_and]
theorem isTablet_eq (l : List ByteArray) : impl_IsTablet.f l = some (good l) := by
  unfold impl_IsTablet.f
  rw [areRows_eq]; rfl

theorem markText_l0 (d : Nat) : ∀ (m : Int) (s : ByteArray), m.toNat ≤ d → 0 ≤ m → d + s.size ≤ 1125899906842624 → ∃ t, Ev (fun k => laws_markText.l0 k m s) t := by
  induction d with
  | zero =>
    intro m s h1 h2 h3
    refine ⟨(⟨#[109]⟩ : ByteArray) ++ s, Ev.step (fun k => rfl) ?_⟩
    simp only [laws_markText.l0]
    exact ev_else (by omega) (ev_if (by omega) (Ev.now _))
  | succ d ih =>
    intro m s h1 h2 h3
    by_cases g : m > 0
    · have e : Int.tdiv m 10 = m / 10 := Int.tdiv_eq_ediv_of_nonneg h2
      have e2 : wrap64 (Int.tdiv m 10) = m / 10 := by rw [e]; exact w64 (by omega) (by omega)
      have e3 : (strOfNums [(wrap64 (48 + Int.tmod m 10)) % 256]).size = 1 := str_size _
      obtain ⟨t, ht⟩ := ih (m / 10) (strOfNums [(wrap64 (48 + Int.tmod m 10)) % 256] ++ s) (by omega) (by omega) (by rw [ByteArray.size_append, e3]; omega)
      refine ⟨t, Ev.step (fun k => rfl) ?_⟩
      simp only [laws_markText.l0]
      refine ev_if g (ev_bind rfl (ev_if (by rw [e3]; omega) ?_))
      rw [e2]
      exact ht
    · exact ih m s (by omega) h2 (by omega)
theorem markText_ev : ∃ T : Int → ByteArray, ∀ m : Int, m ≤ 1099511627776 → Ev (fun k => laws_markText.f k m) (T m) := by
  have h : ∀ m : Int, ∃ t, m ≤ 1099511627776 → Ev (fun k => laws_markText.f k m) t := by
    intro m
    by_cases g : m ≤ 0
    · refine ⟨(⟨#[109, 48]⟩ : ByteArray), fun _ => ?_⟩
      unfold laws_markText.f
      exact ev_if g (Ev.now _)
    · by_cases g2 : m ≤ 1099511627776
      · obtain ⟨t, ht⟩ := markText_l0 m.toNat m ⟨#[]⟩ (Nat.le_refl _) (by omega) (by rw [show (⟨#[]⟩ : ByteArray).size = 0 from rfl]; omega)
        refine ⟨t, fun _ => ?_⟩
        unfold laws_markText.f
        exact ev_else g ht
      · exact ⟨⟨#[]⟩, fun h => absurd h g2⟩
  exact ⟨fun m => Classical.choose (h m), fun m => Classical.choose_spec (h m)⟩
def marksOf (T : Int → ByteArray) (n : Nat) : List ByteArray := (List.range n).map fun (i : Nat) => T (1 + (i : Int))
theorem marksOf_len (T : Int → ByteArray) (n : Nat) : (marksOf T n).length = n := by simp [marksOf]
theorem markStringS_l0 {T : Int → ByteArray} (hT : ∀ m : Int, m ≤ 1099511627776 → Ev (fun k => laws_markText.f k m) (T m)) (n : Nat) (hn : n ≤ 1048576) (d : Nat) : ∀ (j : Nat) (ys : List ByteArray), ys.length = n → (∀ i (h : i < ys.length), i < j → ys[i] = T (1 + (i : Int))) → j + d = n →
    Ev (fun k => laws_markStringS.l0 k ys (1 + (j : Int)) (j : Int)) (1 + (n : Int), marksOf T n) := by
  induction d with
  | zero =>
    intro j ys hl hv hj
    obtain rfl : j = n := by omega
    have e : ys = marksOf T j := List.ext_getElem (by rw [hl, marksOf_len]) (fun i h h' => by rw [hv i h (by omega)]; simp [marksOf])
    refine Ev.step (fun k => rfl) ?_
    simp only [laws_markStringS.l0]
    rw [e]
    exact ev_else (by rw [marksOf_len]; omega) (Ev.now _)
  | succ d ih =>
    intro j ys hl hv hj
    have h := ih (j + 1) (ys.set j (T (1 + (j : Int)))) (by simp [hl]) (by
      intro i h hi
      rw [List.getElem_set]
      by_cases e : j = i
      · subst e; simp
      · rw [if_neg e]; exact hv i (by simpa using h) (by omega)) (by omega)
    rw [show 1 + ((j + 1 : Nat) : Int) = 1 + (j : Int) + 1 by omega] at h
    refine Ev.step (fun k => rfl) ?_
    simp only [laws_markStringS.l0]
    refine ev_if (by omega) (Ev.bind (hT _ (by omega)) (ev_if (by omega) ?_))
    rw [Int.toNat_natCast, w64 (x := 1 + (j : Int) + 1) (by omega) (by omega), w64s (by omega)]
    exact h
theorem markStringS_ev {T : Int → ByteArray} (hT : ∀ m : Int, m ≤ 1099511627776 → Ev (fun k => laws_markText.f k m) (T m)) (xs : List ByteArray) (hn : xs.length ≤ 1048576) : Ev (fun k => laws_markStringS.f k xs 1) (1 + (xs.length : Int), marksOf T xs.length) :=
  markStringS_l0 hT xs.length hn xs.length 0 xs rfl (fun i _ hi => absurd hi (Nat.not_lt_zero _)) (by omega)

theorem heldStringS_l0 {T : Int → ByteArray} (hT : ∀ m : Int, m ≤ 1099511627776 → Ev (fun k => laws_markText.f k m) (T m)) (n : Nat) (hn : n ≤ 1048576) (d : Nat) : ∀ (j : Nat), j + d = n →
    Ev (fun k => laws_heldStringS.l0 k (marksOf T n) (1 + (j : Int)) (j : Int)) (1 + (n : Int)) := by
  have hl := marksOf_len T n
  induction d with
  | zero =>
    intro j hj
    obtain rfl : j = n := by omega
    refine Ev.step (fun k => rfl) ?_
    simp only [laws_heldStringS.l0]
    exact ev_else (by omega) (Ev.now _)
  | succ d ih =>
    intro j hj
    have h := ih (j + 1) (by omega)
    rw [show 1 + ((j + 1 : Nat) : Int) = 1 + (j : Int) + 1 by omega] at h
    refine Ev.step (fun k => rfl) ?_
    simp only [laws_heldStringS.l0]
    refine ev_if (by omega) (ev_if (by omega) (Ev.bind (hT _ (by omega)) (ev_if ?_ ?_)))
    · rw [rdOf_nat _ _ j (by omega)]; simp [marksOf]
    rw [w64 (x := 1 + (j : Int) + 1) (by omega) (by omega), w64s (by omega)]
    exact h
theorem heldStringS_ev {T : Int → ByteArray} (hT : ∀ m : Int, m ≤ 1099511627776 → Ev (fun k => laws_markText.f k m) (T m)) (n : Nat) (hn : n ≤ 1048576) : Ev (fun k => laws_heldStringS.f k (marksOf T n) 1) (1 + (n : Int)) :=
  heldStringS_l0 hT n hn n 0 (by omega)

/-! ### Tablets -/
def sqb (b : Bool) : UInt8 := if b then 35 else 46
/-- A row's text. -/
def rowOf (r : List Bool) : ByteArray := ⟨(r.map sqb).toArray⟩
theorem rowOf_size (r : List Bool) : (rowOf r).size = r.length := by simp [rowOf, ByteArray.size]
theorem rowOf_snoc (r : List Bool) (b : Bool) : rowOf (r ++ [b]) = rowOf r ++ (⟨#[sqb b]⟩ : ByteArray) := by
  apply ByteArray.ext
  simp [rowOf]
theorem flat_len (w : Nat) (rows : List (List Bool)) (h : ∀ r ∈ rows, r.length = w) : rows.flatten.length = w * rows.length := by
  induction rows with
  | nil => simp
  | cons r rows ih =>
    rw [List.flatten_cons, List.length_append, List.length_cons, ih (fun s hs => h s (List.mem_cons_of_mem _ hs)), h r (by simp), Nat.mul_succ]
    omega
theorem flat_slice (w : Nat) (rows : List (List Bool)) (h : ∀ r ∈ rows, r.length = w) (j : Nat) (hj : j < rows.length) : (rows.flatten.take (w * j + w)).drop (w * j) = rows[j] := by
  have e : rows = rows.take j ++ rows[j] :: rows.drop (j + 1) := by
    rw [← List.drop_eq_getElem_cons hj, List.take_append_drop]
  have h1 : (rows.take j).flatten.length = w * j := by
    rw [flat_len w _ (fun r hr => h r (List.mem_of_mem_take hr)), List.length_take, Nat.min_eq_left (by omega)]
  have h2 : rows[j].length = w := h _ (List.getElem_mem hj)
  have e2 : rows.flatten = (rows.take j).flatten ++ (rows[j] ++ (rows.drop (j + 1)).flatten) := by
    conv => lhs; rw [e]
    rw [List.flatten_append, List.flatten_cons]
  rw [e2, List.take_append, h1, List.take_of_length_le (l := (rows.take j).flatten) (by rw [h1]; omega), show w * j + w - w * j = w by omega, List.take_append, List.take_of_length_le (l := rows[j]) (by omega), h2, Nat.sub_self, List.take_zero, List.append_nil]
  rw [← h1, List.drop_left]

/-! ### Tablets as rows of squares -/
theorem sqb_is (b : UInt8) (h : okSq b = true) : sqb (b == 35) = b := by
  unfold okSq at h
  by_cases c : b = 35
  · subst c; rfl
  · rw [beq_false_of_ne c, Bool.false_or, beq_iff_eq] at h
    subst h; rfl
def gridOf (l : List ByteArray) : List (List Bool) := l.map fun r => r.data.toList.map (· == 35)
theorem rowOf_grid (r : ByteArray) (h : r.data.toList.all okSq = true) : rowOf (r.data.toList.map (· == 35)) = r := by
  apply ByteArray.ext
  show ((r.data.toList.map (· == 35)).map sqb).toArray = r.data
  rw [List.map_map, (List.map_congr_left (fun b hb => sqb_is b (List.all_eq_true.1 h b hb)) : r.data.toList.map (sqb ∘ (· == 35)) = r.data.toList.map id), List.map_id]
theorem good_grid (l : List ByteArray) (h : good l = true) : ∃ (w : Nat) (rows : List (List Bool)), l = rows.map rowOf ∧ (1 ≤ w ∧ w ≤ 10) ∧ (1 ≤ rows.length ∧ rows.length ≤ 10) ∧ ∀ r ∈ rows, r.length = w := by
  unfold good at h
  simp only [Bool.and_eq_true, decide_eq_true_eq, List.all_eq_true] at h
  obtain ⟨⟨h1, h2⟩, ⟨h3, h4⟩, h5⟩ := h
  have h6 : ∀ r ∈ l, r.size = (rdOf ByteArray.empty l 0).size ∧ r.data.toList.all okSq = true := by
    intro r hr
    have := h5 r hr
    unfold okRow at this
    rw [Bool.and_eq_true] at this
    exact ⟨of_decide_eq_true this.1, this.2⟩
  refine ⟨(rdOf ByteArray.empty l 0).size, gridOf l, ?_, by omega, by unfold gridOf; rw [List.length_map]; omega, ?_⟩
  · unfold gridOf
    rw [List.map_map]
    exact ((List.map_congr_left (fun r hr => rowOf_grid r (h6 r hr).2) : l.map (rowOf ∘ fun r => r.data.toList.map (· == 35)) = l.map id).trans (List.map_id _)).symm
  · intro r hr
    unfold gridOf at hr
    obtain ⟨s, hs, rfl⟩ := List.mem_map.1 hr
    rw [List.length_map, sz_list]
    exact (h6 s hs).1
theorem rowOf_list (r : List Bool) : (rowOf r).data.toList = r.map sqb := by simp [rowOf]
theorem bt_row (r : List Bool) (i : Nat) (h : i < r.length) : (bt (rowOf r) (i : Int) == 35) = r[i] := by
  have h' : i < (rowOf r).data.toList.length := by rw [rowOf_list, List.length_map]; exact h
  have e : (rowOf r).data.toList[i] = sqb r[i] := by simp [rowOf_list]
  rw [bt_list (rowOf r) i h', e]
  cases r[i] <;> rfl
theorem rd_row (rows : List (List Bool)) (j : Nat) (h : j < rows.length) : rdOf ByteArray.empty (rows.map rowOf) (j : Int) = rowOf rows[j] := by
  rw [rdOf_nat _ _ j (by rw [List.length_map]; exact h), List.getElem_map]
theorem rd_row0 (w : Nat) (rows : List (List Bool)) (h : 1 ≤ rows.length) (hr : ∀ r ∈ rows, r.length = w) : (rdOf ByteArray.empty (rows.map rowOf) 0).size = w := by
  have e : rdOf ByteArray.empty (rows.map rowOf) 0 = rowOf rows[0] := rd_row rows 0 h
  rw [e, rowOf_size]
  exact hr _ (List.getElem_mem h)
/-- Is there a square at a place? -/
def atG (w : Nat) (rows : List (List Bool)) (x y : Int) : Bool :=
  if (0 ≤ y ∧ y ≤ (rows.length : Int) - 1) ∧ (0 ≤ x ∧ x ≤ (w : Int) - 1) then (rows.getD y.toNat []).getD x.toNat false else false
theorem atG_nat (w : Nat) (rows : List (List Bool)) (hr : ∀ r ∈ rows, r.length = w) (x y : Nat) (hy : y < rows.length) (hx : x < rows[y].length) : atG w rows (x : Int) (y : Int) = rows[y][x] := by
  have hw := hr _ (List.getElem_mem hy)
  unfold atG
  rw [if_pos ⟨by omega, by omega⟩, Int.toNat_natCast, Int.toNat_natCast]
  simp [List.getD_eq_getElem?_getD, List.getElem?_eq_getElem hy, List.getElem?_eq_getElem hx]
theorem flat_le (w : Nat) (rows : List (List Bool)) (hw : 1 ≤ w ∧ w ≤ 10) (hn : 1 ≤ rows.length ∧ rows.length ≤ 10) (hr : ∀ r ∈ rows, r.length = w) : rows.flatten.length ≤ 100 := by
  rw [flat_len w rows hr]
  exact Nat.mul_le_mul hw.2 hn.2

/-! ### A text cut at a sign -/
def ofL (l : List UInt8) : ByteArray := ⟨l.toArray⟩
theorem ofL_size (l : List UInt8) : (ofL l).size = l.length := by simp [ofL, ByteArray.size]
theorem ofL_data (s : ByteArray) : ofL s.data.toList = s := by apply ByteArray.ext; simp [ofL]
def spL : List UInt8 → List (List UInt8)
  | [] => [[]]
  | b :: l => if b = 47 then [] :: spL l else match spL l with | [] => [[b]] | h :: t => (b :: h) :: t
theorem spL_ne (l : List UInt8) : spL l ≠ [] := by
  cases l with
  | nil => simp [spL]
  | cons b l =>
    unfold spL
    split
    · simp
    · split <;> simp
def glue (p : List UInt8) : List (List UInt8) → List (List UInt8)
  | [] => [p]
  | h :: t => (p ++ h) :: t
theorem glue_nil (L : List (List UInt8)) (h : L ≠ []) : glue [] L = L := by
  cases L with
  | nil => exact absurd rfl h
  | cons a t => rfl
theorem spL_hit (l : List UInt8) : spL (47 :: l) = [] :: spL l := by simp [spL]
theorem spL_off (b : UInt8) (l : List UInt8) (h : ¬ b = 47) : spL (b :: l) = glue [b] (spL l) := by
  conv => lhs; unfold spL
  rw [if_neg h]
  cases e : spL l with
  | nil => rfl
  | cons a t => rfl
theorem glue_glue (p q : List UInt8) (L : List (List UInt8)) : glue p (glue q L) = glue (p ++ q) L := by
  cases L with
  | nil => rfl
  | cons a t => simp [glue]
theorem spL_pre (p : List UInt8) (hp : ∀ b ∈ p, b ≠ 47) (l : List UInt8) : spL (p ++ l) = glue p (spL l) := by
  induction p with
  | nil => rw [List.nil_append, glue_nil _ (spL_ne l)]
  | cons b p ih =>
    rw [List.cons_append, spL_off b _ (hp b (by simp)), ih (fun c hc => hp c (List.mem_cons_of_mem _ hc)), glue_glue]
    rfl
theorem spL_len (l : List UInt8) : l.length + 1 = ((spL l).map fun x => x.length + 1).sum := by
  induction l with
  | nil => rfl
  | cons b l ih =>
    by_cases h : b = 47
    · subst h
      rw [spL_hit, List.map_cons, List.sum_cons, ← ih, List.length_cons, List.length_nil]
      omega
    · rw [spL_off b l h]
      cases e : spL l with
      | nil => exact absurd e (spL_ne l)
      | cons a t =>
        rw [e, List.map_cons, List.sum_cons] at ih
        show _ = (((b :: a) :: t).map fun x => x.length + 1).sum
        rw [List.map_cons, List.sum_cons, List.length_cons, List.length_cons]
        omega
theorem split_one (s : ByteArray) : Lib.indexB s (⟨#[47]⟩ : ByteArray) = Lib.indexByte s.data.toList 47 := Lib.one s (⟨#[47]⟩ : ByteArray) rfl
theorem split_eq (n : Nat) : ∀ s : ByteArray, Lib.countB s (⟨#[47]⟩ : ByteArray) = n → Lib.splitB (⟨#[47]⟩ : ByteArray) 0 n s = (spL s.data.toList).map ofL := by
  induction n with
  | zero =>
    intro s h
    have e : Lib.indexByte s.data.toList 47 = -1 := by
      by_cases c : Lib.indexByte s.data.toList 47 = -1
      · exact c
      · have hg := Lib.indexByte_ge s.data.toList 47
        have := Lib.countB_hit s (⟨#[47]⟩ : ByteArray) (Lib.indexByte s.data.toList 47).toNat (Nat.le_refl 1) (by rw [split_one]; omega)
        omega
    have hn := Lib.indexByte_none e
    have hp : ∀ b ∈ s.data.toList, b ≠ 47 := by
      intro b hb hc
      obtain ⟨k, hk, rfl⟩ := List.getElem_of_mem hb
      exact hn k (by rw [List.getElem?_eq_getElem hk, hc])
    have := spL_pre s.data.toList hp []
    rw [List.append_nil] at this
    rw [this, Lib.splitB_zero]
    show [s] = (glue s.data.toList [[]]).map ofL
    simp only [glue, List.append_nil, List.map_cons, List.map_nil, ofL_data]
  | succ n ih =>
    intro s h
    obtain ⟨i, hi⟩ : ∃ i : Nat, Lib.indexByte s.data.toList 47 = i := by
      have hg := Lib.indexByte_ge s.data.toList 47
      by_cases c : Lib.indexByte s.data.toList 47 = -1
      · have := Lib.countB_miss s (⟨#[47]⟩ : ByteArray) (by rw [split_one]; exact c)
        omega
      · exact ⟨(Lib.indexByte s.data.toList 47).toNat, by omega⟩
    have hB : Lib.indexB s (⟨#[47]⟩ : ByteArray) = i := by rw [split_one]; exact hi
    have hc := Lib.countB_hit s (⟨#[47]⟩ : ByteArray) i (Nat.le_refl 1) hB
    obtain ⟨h1, h2⟩ := Lib.indexByte_some hi
    obtain ⟨hl, he⟩ := List.getElem?_eq_some_iff.1 h1
    have hrest : (s.extract (i + 1) s.size).data.toList = s.data.toList.drop (i + 1) := by
      rw [ByteArray.data_extract, Array.toList_extract]
      simp
      exact List.take_of_length_le (by rw [List.length_drop, sz_list]; exact Nat.le_refl _)
    have hfirst : s.extract 0 i = ofL (s.data.toList.take i) := by
      apply ByteArray.ext
      apply Array.toList_inj.mp
      rw [ByteArray.data_extract, Array.toList_extract]
      simp [ofL]
    rw [Lib.splitB_hit _ _ _ _ i hB]
    show s.extract 0 (i + 0) :: Lib.splitB (⟨#[47]⟩ : ByteArray) 0 n (s.extract (i + 1) s.size) = _
    rw [ih (s.extract (i + 1) s.size) (by have hc' : Lib.countB s (⟨#[47]⟩ : ByteArray) = 1 + Lib.countB (s.extract (i + 1) s.size) (⟨#[47]⟩ : ByteArray) := hc; omega), hrest, Nat.add_zero, hfirst]
    have hsp : s.data.toList = s.data.toList.take i ++ 47 :: s.data.toList.drop (i + 1) := by
      rw [← he, ← List.drop_eq_getElem_cons hl, List.take_append_drop]
    have hpre : ∀ b ∈ s.data.toList.take i, b ≠ 47 := by
      intro b hb hc
      obtain ⟨k, hk, rfl⟩ := List.getElem_of_mem hb
      rw [List.length_take] at hk
      refine h2 k (by omega) ?_
      rw [List.getElem_take] at hc
      rw [List.getElem?_eq_getElem (by omega), hc]
    conv => rhs; rw [hsp]
    rw [spL_pre _ hpre, spL_hit]
    simp [glue]
theorem l1Split_l0 (s : ByteArray) (hs : s.size ≤ 1048576) (d : Nat) : ∀ (i fr : Nat) (out : List ByteArray), i + d = s.size → fr ≤ i → out.length ≤ i →
    Ev (fun k => spec_l1Split.l0 k s 47 out (fr : Int) (i : Int)) (out ++ (glue ((s.data.toList.take i).drop fr) (spL (s.data.toList.drop i))).map ofL) := by
  have hl := sz_list s
  have hex : ∀ a b : Nat, s.extract a b = ofL ((s.data.toList.take b).drop a) := by
    intro a b
    apply ByteArray.ext
    apply Array.toList_inj.mp
    rw [ByteArray.data_extract, Array.toList_extract]
    simp [ofL, List.drop_take]
  induction d with
  | zero =>
    intro i fr out hi hf ho
    have hi' : i = s.size := by omega
    subst hi'
    have e0 : s.data.toList.drop s.size = [] := List.drop_of_length_le (by omega)
    have eg : glue ((s.data.toList.take s.size).drop fr) (spL []) = [(s.data.toList.take s.size).drop fr] := by simp [spL, glue]
    rw [e0, eg]
    refine Ev.step (fun k => rfl) ?_
    simp only [spec_l1Split.l0]
    rw [Int.toNat_natCast, hex fr s.size]
    exact ev_else (by omega) (ev_if (by omega) (ev_if (by omega) (ev_if (by omega) (Ev.now _))))
  | succ d ih =>
    intro i fr out hi hf ho
    have hil : i < s.data.toList.length := by omega
    have hb := u8_eq (s.data.toList[i]) 47 47 rfl
    rw [List.drop_eq_getElem_cons hil]
    refine Ev.step (fun k => rfl) ?_
    simp only [spec_l1Split.l0]
    rw [bt_list s i hil, w64s (by omega), Int.toNat_natCast, Int.toNat_natCast]
    refine ev_if (by omega) (ev_if (by omega) ?_)
    by_cases c : s.data.toList[i] = 47
    · refine ev_if (hb.mpr c) (ev_if (by omega) (ev_if (by omega) (ev_if (by omega) (ev_if (by omega) ?_))))
      have h := ih (i + 1) (i + 1) (out ++ [s.extract fr i]) (by omega) (Nat.le_refl _) (by simp; omega)
      rw [List.drop_of_length_le (l := s.data.toList.take (i + 1)) (by rw [List.length_take]; omega), glue_nil _ (spL_ne _), List.append_assoc] at h
      rw [c, spL_hit]
      simp only [glue, List.append_nil, List.map_cons]
      rw [← hex fr i]
      exact h
    · refine ev_else (fun e => c (hb.mp e)) ?_
      have h := ih (i + 1) fr out (by omega) (by omega) (by omega)
      rw [spL_off _ _ c, glue_glue]
      have e : (s.data.toList.take (i + 1)).drop fr = (s.data.toList.take i).drop fr ++ [s.data.toList[i]] := by
        rw [List.take_succ_eq_append_getElem hil, List.drop_append_of_le_length (by rw [List.length_take]; omega)]
      rw [e] at h
      exact h
theorem l1Split_ev (s : ByteArray) (hs : s.size ≤ 1048576) : Ev (fun k => spec_l1Split.f k s 47) ((spL s.data.toList).map ofL) := by
  have h := l1Split_l0 s hs s.size 0 0 [] (by omega) (Nat.le_refl _) (Nat.le_refl _)
  rw [List.take_zero, List.drop_nil, List.drop_zero, glue_nil _ (spL_ne _), List.nil_append] at h
  exact h
theorem split_impl (s : ByteArray) (hs : s.size ≤ 1048576) : strings_Split.f s (⟨#[47]⟩ : ByteArray) = some ((spL s.data.toList).map ofL) := by
  unfold strings_Split.f
  rw [if_pos ⟨by omega, Nat.le_refl 1⟩, split_eq _ s rfl]
theorem sum_le (L : List (List UInt8)) (c : Nat) (h : ∀ x ∈ L, x.length + 1 ≤ c) : (L.map fun x => x.length + 1).sum ≤ c * L.length := by
  induction L with
  | nil => simp
  | cons a t ih =>
    have h1 := h a (by simp)
    have h2 := ih (fun x hx => h x (List.mem_cons_of_mem _ hx))
    rw [List.map_cons, List.sum_cons, List.length_cons, Nat.mul_succ]
    omega
theorem good_small (s : ByteArray) (h : good ((spL s.data.toList).map ofL) = true) : s.size ≤ 109 := by
  have hl := spL_len s.data.toList
  rw [sz_list] at hl
  obtain ⟨w, rows, he, hw, hn, hr⟩ := good_grid _ h
  have hlen : (spL s.data.toList).length = rows.length := by have := congrArg List.length he; simpa using this
  have hs := sum_le (spL s.data.toList) 11 (by
    intro x hx
    have : ofL x ∈ rows.map rowOf := by rw [← he]; exact List.mem_map.2 ⟨x, hx, rfl⟩
    obtain ⟨r, hr1, hr2⟩ := List.mem_map.1 this
    have h1 := congrArg ByteArray.size hr2
    rw [rowOf_size, ofL_size, hr r hr1] at h1
    omega)
  rw [hlen] at hs
  omega

theorem parse_both (s : ByteArray) (hs : s.size ≤ 1048576) : ∃ L : List ByteArray, ∃ ok : Bool, L.length ≤ 1048576 ∧ Ev (fun k => spec_ParseTablet.f k s) (L, ok) ∧ impl_ParseTablet.f s = some (L, ok) := by
  have hlen : ((spL s.data.toList).map ofL).length ≤ 1048577 := by
    have hl := spL_len s.data.toList
    rw [sz_list] at hl
    have : (spL s.data.toList).length ≤ ((spL s.data.toList).map fun x => x.length + 1).sum := by
      induction spL s.data.toList with
      | nil => simp
      | cons a t ih => rw [List.map_cons, List.sum_cons, List.length_cons]; omega
    rw [List.length_map]; omega
  unfold spec_ParseTablet.f impl_ParseTablet.f
  rw [split_impl s hs]
  simp only [Option.bind_some]
  rw [isTablet_eq]
  simp only [Option.bind_some]
  cases hg : good ((spL s.data.toList).map ofL) with
  | false =>
    refine ⟨[], false, by simp, ?_, by simp⟩
    by_cases c : (s.size : Int) > 110
    · exact ev_if c (Ev.now _)
    · refine ev_else c (Ev.bind (l1Split_ev s hs) ?_)
      have hl : ((spL s.data.toList).map ofL).length ≤ 1048576 := by
        have hl := spL_len s.data.toList
        rw [sz_list] at hl
        have : (spL s.data.toList).length ≤ ((spL s.data.toList).map fun x => x.length + 1).sum := by
          induction spL s.data.toList with
          | nil => simp
          | cons a t ih => rw [List.map_cons, List.sum_cons, List.length_cons]; omega
        rw [List.length_map]; omega
      have h := mlGood_ev _ hl
      rw [hg] at h
      exact Ev.bind h (ev_else (by simp) (Ev.now _))
  | true =>
    have hsm := good_small s hg
    obtain ⟨w, rows, he, hw, hn, hr⟩ := good_grid _ hg
    have hl : ((spL s.data.toList).map ofL).length ≤ 1048576 := by rw [he, List.length_map]; omega
    have h := mlGood_ev _ hl
    rw [hg] at h
    exact ⟨(spL s.data.toList).map ofL, true, hl, ev_else (by omega) (Ev.bind (l1Split_ev s hs) (Ev.bind h (ev_if rfl (Ev.now _)))), by simp⟩
theorem FnExactParseTablet : laws_FnExactParseTablet.Pure := by
  intro s _
  apply Ev.rounds (r := true)
  obtain ⟨T, hT⟩ := markText_ev
  unfold laws_FnExactParseTablet.f
  by_cases c : (s.size : Int) > 1048576
  · exact ev_if c (Ev.now _)
  obtain ⟨L, ok, hL, hs, hi⟩ := parse_both s (by omega)
  refine ev_else c (Ev.bind hs (ev_bind hi (Ev.bind (eqStringS_self L hL) (ev_if rfl ?_))))
  refine Ev.step (fun k => rfl) ?_
  simp only [laws_FnExactParseTablet.j0]
  refine ev_else (by simp) (Ev.bind (markStringS_ev hT L hL) (Ev.bind (heldStringS_ev hT L.length hL) (ev_else (by omega) (ev_if rfl (ev_bind hi (Ev.bind (eqStringS_self L hL) (ev_if rfl ?_)))))))
  refine Ev.step (fun k => rfl) ?_
  simp only [laws_FnExactParseTablet.j1]
  exact ev_else (by simp) (Ev.bind (heldStringS_ev hT L.length hL) (ev_else (by omega) (ev_if rfl (Ev.now _))))

end Go.Proofs.YtghfhcmjnpjgdaaDoor.Pure
