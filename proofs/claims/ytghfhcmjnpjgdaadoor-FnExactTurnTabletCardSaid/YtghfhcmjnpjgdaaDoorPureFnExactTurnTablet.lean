/- For all arguments the program's TurnTablet returns what the reference's TurnTablet returns. Condition: the package variables unicode/utf8.first and unicode/utf8.acceptRanges hold what the library's text lays. -/
import Derived.Test.YtghfhcmjnpjgdaaDoorT8
namespace Go.Proofs.YtghfhcmjnpjgdaaDoor.Pure
open Go.RowKit Go.Proofs.YtghfhcmjnpjgdaaDoor.T Go.Proofs.YtghfhcmjnpjgdaaDoorW.PrintWords Go.Proofs.YtghfhcmjnpjgdaaDoorW.PrintLast
set_option linter.unusedVariables false
set_option linter.unusedSimpArgs false

theorem w64 {x : Int} (h0 : -9223372036854775808 ≤ x) (h1 : x ≤ 9223372036854775807) : wrap64 x = x := by
  unfold wrap64
  omega
theorem wf_i64 {x : Int} (h : (Lit.int .i64 x).wf = true) : -9223372036854775808 ≤ x ∧ x ≤ 9223372036854775807 := by
  have hmin : IntKind.i64.min = -9223372036854775808 := rfl
  have hmax : IntKind.i64.max = 9223372036854775807 := rfl
  simp only [Lit.wf, Bool.and_eq_true, decide_eq_true_eq] at h
  omega

theorem two {α β : Type} {g : Nat → Option α} {f : Nat → Option β} {a : α} {b : β} (h : Ev g a) (h' : Ev f b) : ∃ k, g k = some a ∧ f k = some b := by
  obtain ⟨K, h⟩ := h
  obtain ⟨K', h'⟩ := h'
  exact ⟨max K K', h _ (by omega), h' _ (by omega)⟩
theorem str_app (xs ys : List Int) : strOfNums (xs ++ ys) = strOfNums xs ++ strOfNums ys := by
  apply ByteArray.ext
  simp [strOfNums]
theorem str_nil : strOfNums [] = (⟨#[]⟩ : ByteArray) := rfl
theorem str_size (xs : List Int) : (strOfNums xs).size = xs.length := by simp [strOfNums, ByteArray.size]
theorem ba_nil_app (b : ByteArray) : (⟨#[]⟩ : ByteArray) ++ b = b := by
  apply ByteArray.ext
  simp
theorem ba_app_nil (b : ByteArray) : b ++ (⟨#[]⟩ : ByteArray) = b := by
  apply ByteArray.ext
  simp
theorem ba_assoc (a b c : ByteArray) : a ++ b ++ c = a ++ (b ++ c) := by
  apply ByteArray.ext
  simp
theorem ev_if {α : Type} {c : Prop} [Decidable c] {g f : Nat → Option α} {r : α} (hc : c) (h : Ev g r) : Ev (fun k => if c then g k else f k) r :=
  Ev.congr (fun k => if_pos hc) h
theorem ev_else {α : Type} {c : Prop} [Decidable c] {g f : Nat → Option α} {r : α} (hc : ¬ c) (h : Ev f r) : Ev (fun k => if c then g k else f k) r :=
  Ev.congr (fun k => if_neg hc) h
theorem ev_bind {α β : Type} {a : α} {o : Option α} {f : Nat → α → Option β} {r : β} (h : o = some a) (k : Ev (fun n => f n a) r) : Ev (fun n => o.bind (f n)) r :=
  Ev.congr (fun n => by rw [h]; rfl) k

theorem l1In_eq (a b c : Int) : spec_l1In.f a b c = some (decide (b ≤ a ∧ a ≤ c)) := by
  unfold spec_l1In.f
  by_cases h : b ≤ a
  · rw [if_pos (show a ≥ b from h)]; simp [h]
  · rw [if_neg (show ¬ a ≥ b from h)]; simp [h]
theorem within_eq (a b c : Int) : impl_within.f a b c = some (decide (b ≤ a ∧ a ≤ c)) := by
  unfold impl_within.f
  by_cases h : b ≤ a
  · rw [if_pos h]; simp [h]
  · rw [if_neg h]; simp [h]
theorem within_l1In (a b c : Int) : impl_within.f a b c = spec_l1In.f a b c := by rw [within_eq, l1In_eq]

/-! ### Texts -/
theorem w64s {j : Nat} (h : j < 9223372036854775807) : wrap64 ((j : Int) + 1) = ((j + 1 : Nat) : Int) := by
  rw [w64 (by omega) (by omega)]; omega
theorem rdOf_nat {α : Type} (d : α) (xs : List α) (j : Nat) (h : j < xs.length) : rdOf d xs (j : Int) = xs[j] := by
  simp [rdOf, List.getD_eq_getElem?_getD, List.getElem?_eq_getElem h]
theorem eqStringS_l0 (xs : List ByteArray) (hx : xs.length ≤ 1048576) (d : Nat) : ∀ j : Nat, j + d = xs.length → Ev (fun k => laws_eqStringS.l0 k xs xs (j : Int)) true := by
  induction d with
  | zero =>
    intro j hj
    refine Ev.step (fun k => rfl) ?_
    simp only [laws_eqStringS.l0]
    exact ev_else (by omega) (Ev.now _)
  | succ d ih =>
    intro j hj
    refine Ev.step (fun k => rfl) ?_
    simp only [laws_eqStringS.l0]
    refine ev_if (by omega) (ev_if (by omega) (ev_if (by omega) (ev_if ?_ ?_)))
    · first | rfl | trivial
    rw [w64s (by omega)]
    exact ih (j + 1) (by omega)
theorem eqStringS_self (xs : List ByteArray) (hx : xs.length ≤ 1048576) : Ev (fun k => laws_eqStringS.f k xs xs) true := by
  unfold laws_eqStringS.f
  exact ev_if rfl (eqStringS_l0 xs hx xs.length 0 (by omega))

/-! ### Bytes of a text -/
theorem sz_list (s : ByteArray) : s.data.toList.length = s.size := by rw [Array.length_toList]; rfl
theorem bt_list (s : ByteArray) (j : Nat) (h : j < s.data.toList.length) : bt s (j : Int) = ((s.data.toList[j]'h).toNat : Int) := by
  rw [sz_list] at h
  unfold bt
  rw [dif_pos (by rw [Int.toNat_natCast]; exact h)]
  simp only [Int.toNat_natCast]
  rfl
theorem u8_eq (b : UInt8) (n : Nat) (c : UInt8) (hc : c.toNat = n) : ((b.toNat : Int) = (n : Int)) ↔ b = c := by
  constructor
  · intro h
    apply UInt8.toNat_inj.mp
    omega
  · rintro rfl
    rw [hc]
theorem dw_nil {α : Type} (p : α → Bool) (l : List α) : l.all p = true → l.dropWhile p = [] := by
  induction l with
  | nil => intro _; rfl
  | cons a l ih =>
    intro h
    rw [List.all_cons, Bool.and_eq_true] at h
    rw [List.dropWhile_cons, if_pos h.1]
    exact ih h.2
theorem dw_all {α : Type} (p : α → Bool) (l : List α) : (l.dropWhile p).all p = true → l.all p = true := by
  induction l with
  | nil => intro _; rfl
  | cons a l ih =>
    intro h
    rw [List.dropWhile_cons] at h
    by_cases c : p a = true
    · rw [if_pos c] at h
      rw [List.all_cons, c, ih h]; rfl
    · rw [if_neg c] at h
      exact h
theorem trimS_all (l cs : List UInt8) : (Lib.trimS l cs == []) = l.all (cs.contains ·) := by
  cases h : l.all (cs.contains ·) with
  | true =>
    have hr : l.reverse.all (cs.contains ·) = true := by rw [List.all_reverse]; exact h
    have e : Lib.trimRightS l cs = [] := by
      unfold Lib.trimRightS
      rw [dw_nil _ _ hr]; rfl
    unfold Lib.trimS
    rw [e]
    rfl
  | false =>
    rw [beq_eq_false_iff_ne]
    intro e
    have h1 : (Lib.trimRightS l cs).all (cs.contains ·) = true := by
      refine dw_all _ _ ?_
      have e' : List.dropWhile (cs.contains ·) (Lib.trimRightS l cs) = [] := e
      rw [e']
      rfl
    have h2 : (l.reverse.dropWhile (cs.contains ·)).all (cs.contains ·) = true := by
      have h3 := h1
      unfold Lib.trimRightS at h3
      rw [List.all_reverse] at h3
      exact h3
    have h4 := dw_all _ _ h2
    rw [List.all_reverse, h] at h4
    cases h4

/-! ### Arguments: lists of texts -/
theorem szS_l0 (xs : List ByteArray) (hx : xs.length ≤ 1048576) (hs : ∀ x ∈ xs, x.size ≤ 9223372036854775807) (d : Nat) : ∀ (j : Nat) (left : Int), j + d = xs.length → 0 ≤ left → left ≤ 1048576 → ∃ r, Ev (fun k => laws_szStringS.l0 k xs left (j : Int)) r := by
  induction d with
  | zero =>
    intro j left hj h0 h1
    refine ⟨left, Ev.step (fun k => rfl) ?_⟩
    simp only [laws_szStringS.l0]
    exact ev_else (by omega) (Ev.now _)
  | succ d ih =>
    intro j left hj h0 h1
    have hl : j < xs.length := by omega
    have hb := hs _ (List.getElem_mem hl)
    have e : wrap64 (left - (xs[j].size : Int)) = left - (xs[j].size : Int) := w64 (by omega) (by omega)
    by_cases c : left - (xs[j].size : Int) < 0
    · refine ⟨-1, Ev.step (fun k => rfl) ?_⟩
      simp only [laws_szStringS.l0]
      rw [rdOf_nat _ _ j hl, e]
      exact ev_if (by omega) (ev_if (by omega) (ev_if c (Ev.now _)))
    · obtain ⟨r, hr⟩ := ih (j + 1) (left - (xs[j].size : Int)) (by omega) (by omega) (by omega)
      refine ⟨r, Ev.step (fun k => rfl) ?_⟩
      simp only [laws_szStringS.l0]
      rw [rdOf_nat _ _ j hl, e, w64s (by omega)]
      exact ev_if (by omega) (ev_if (by omega) (ev_else c hr))
theorem szS_ev (xs : List ByteArray) (h1 : xs.length ≤ 9223372036854775807) (hs : ∀ x ∈ xs, x.size ≤ 9223372036854775807) : ∃ r, Ev (fun k => laws_szStringS.f k xs 1048576) r ∧ (¬ r < 0 → xs.length ≤ 1048576) := by
  unfold laws_szStringS.f
  have e : wrap64 (1048576 - (xs.length : Int)) = 1048576 - (xs.length : Int) := w64 (by omega) (by omega)
  rw [e]
  by_cases c : 1048576 - (xs.length : Int) < 0
  · exact ⟨-1, ev_if c (Ev.now _), fun h => absurd (show (-1 : Int) < 0 by omega) h⟩
  · obtain ⟨r, hr⟩ := szS_l0 xs (by omega) hs xs.length 0 (1048576 - (xs.length : Int)) (by omega) (by omega) (by omega)
    exact ⟨r, ev_else c hr, fun _ => by omega⟩
theorem toS_l0 (xs : List ByteArray) (hx : xs.length ≤ 1048576) (d : Nat) : ∀ j : Nat, j + d = xs.length → Ev (fun k => laws_toStringS.l0 k xs (xs.take j ++ List.replicate d (⟨#[]⟩ : ByteArray)) (j : Int)) xs := by
  induction d with
  | zero =>
    intro j hj
    refine Ev.step (fun k => rfl) ?_
    simp only [laws_toStringS.l0]
    rw [List.take_of_length_le (by omega), List.replicate_zero, List.append_nil]
    exact ev_else (by omega) (Ev.now _)
  | succ d ih =>
    intro j hj
    have hl : j < xs.length := by omega
    have ht : (xs.take j).length = j := by rw [List.length_take]; omega
    have e : (xs.take j ++ List.replicate (d + 1) (⟨#[]⟩ : ByteArray)).set j xs[j] = xs.take (j + 1) ++ List.replicate d (⟨#[]⟩ : ByteArray) := by
      rw [List.set_append, if_neg (by omega), ht, Nat.sub_self, List.replicate_succ, List.set_cons_zero, List.take_succ_eq_append_getElem hl, List.append_assoc]
      rfl
    refine Ev.step (fun k => rfl) ?_
    simp only [laws_toStringS.l0]
    rw [rdOf_nat _ _ j hl, Int.toNat_natCast, e, w64s (by omega)]
    exact ev_if (by omega) (ev_if (by omega) (ev_if (by rw [List.length_append, List.length_replicate, ht]; omega) (ih (j + 1) (by omega))))
theorem toS_ev (xs : List ByteArray) (hx : xs.length ≤ 1048576) : Ev (fun k => laws_toStringS.f k xs) xs := by
  unfold laws_toStringS.f
  rw [Int.toNat_natCast]
  exact ev_if (by omega) (ev_if (by omega) (toS_l0 xs hx xs.length 0 (by omega)))

/-! ### Tablets -/
def okSq (b : UInt8) : Bool := b == 35 || b == 46
def okRow (n : Nat) (r : ByteArray) : Bool := decide (r.size = n) && r.data.toList.all okSq
def good (l : List ByteArray) : Bool :=
  decide (1 ≤ (l.length : Int) ∧ (l.length : Int) ≤ 10) && (decide (1 ≤ ((rdOf ByteArray.empty l 0).size : Int) ∧ ((rdOf ByteArray.empty l 0).size : Int) ≤ 10) && l.all (okRow (rdOf ByteArray.empty l 0).size))
theorem mlGood_l1 (l : List ByteArray) (r : ByteArray) (hr : r.size ≤ 1048576) (i : Int) (n : Nat) (b : Bool) (hE : Ev (fun k => spec_mlGood.l0 k l l (n : Int) (wrap64 (i + 1))) b) (d : Nat) :
    ∀ j : Nat, j + d = r.size → Ev (fun k => spec_mlGood.l1 k l r (j : Int) l (n : Int) i) ((r.data.toList.drop j).all okSq && b) := by
  have hl := sz_list r
  induction d with
  | zero =>
    intro j hj
    refine Ev.step (fun k => rfl) ?_
    simp only [spec_mlGood.l1]
    rw [List.drop_of_length_le (by omega)]
    exact ev_else (by omega) hE
  | succ d ih =>
    intro j hj
    have hj' : j < r.data.toList.length := by omega
    rw [List.drop_eq_getElem_cons hj', List.all_cons]
    refine Ev.step (fun k => rfl) ?_
    simp only [spec_mlGood.l1]
    rw [bt_list r j hj', w64s (by omega)]
    have h1 := u8_eq (r.data.toList[j]) 35 35 rfl
    have h2 := u8_eq (r.data.toList[j]) 46 46 rfl
    refine ev_if (by omega) (ev_if (by omega) ?_)
    by_cases c1 : r.data.toList[j] = 35
    · have e : okSq r.data.toList[j] = true := by rw [c1]; rfl
      rw [e, Bool.true_and]
      exact ev_if (h1.mpr c1) (ih (j + 1) (by omega))
    · by_cases c2 : r.data.toList[j] = 46
      · have e : okSq r.data.toList[j] = true := by rw [c2]; rfl
        rw [e, Bool.true_and]
        exact ev_else (fun h => c1 (h1.mp h)) (ev_if (h2.mpr c2) (ih (j + 1) (by omega)))
      · have e : okSq r.data.toList[j] = false := by unfold okSq; rw [beq_false_of_ne c1, beq_false_of_ne c2]; rfl
        rw [e, Bool.false_and, Bool.false_and]
        exact ev_else (fun h => c1 (h1.mp h)) (ev_else (fun h => c2 (h2.mp h)) (Ev.now _))
theorem mlGood_l0 (l : List ByteArray) (hx : l.length ≤ 1048576) (hn : (rdOf ByteArray.empty l 0).size ≤ 1048576) (d : Nat) :
    ∀ j : Nat, j + d = l.length → Ev (fun k => spec_mlGood.l0 k l l (l.length : Int) (j : Int)) ((l.drop j).all (okRow (rdOf ByteArray.empty l 0).size)) := by
  induction d with
  | zero =>
    intro j hj
    refine Ev.step (fun k => rfl) ?_
    simp only [spec_mlGood.l0]
    rw [List.drop_of_length_le (by omega)]
    exact ev_else (by omega) (Ev.now _)
  | succ d ih =>
    intro j hj
    have hl : j < l.length := by omega
    have hE := ih (j + 1) (by omega)
    rw [List.drop_eq_getElem_cons hl, List.all_cons]
    refine Ev.step (fun k => rfl) ?_
    simp only [spec_mlGood.l0]
    rw [rdOf_nat _ _ j hl]
    refine ev_if (by omega) (ev_if (by omega) (ev_if (by omega) (ev_if (by omega) ?_)))
    by_cases c : l[j].size = (rdOf ByteArray.empty l 0).size
    · refine ev_if (by omega) ?_
      have h := mlGood_l1 l l[j] (by omega) (j : Int) l.length _ (by rw [w64s (by omega)]; exact hE) l[j].size 0 (by omega)
      rw [List.drop_zero] at h
      unfold okRow at h ⊢
      rw [decide_eq_true c, Bool.true_and]
      exact h
    · refine ev_else (by omega) ?_
      rw [show okRow (rdOf ByteArray.empty l 0).size l[j] = false by unfold okRow; rw [decide_eq_false c]; rfl, Bool.false_and]
      exact Ev.now _
theorem mlGood_ev (l : List ByteArray) (hx : l.length ≤ 1048576) : Ev (fun k => spec_mlGood.f k l) (good l) := by
  unfold spec_mlGood.f good
  simp only [l1In_eq, Option.bind_some]
  by_cases c : 1 ≤ (l.length : Int) ∧ (l.length : Int) ≤ 10
  · refine ev_if (by simpa using c) (ev_if (by omega) ?_)
    rw [decide_eq_true c, Bool.true_and]
    refine Ev.step (fun k => rfl) ?_
    simp only [spec_mlGood.j0]
    by_cases c2 : 1 ≤ ((rdOf ByteArray.empty l 0).size : Int) ∧ ((rdOf ByteArray.empty l 0).size : Int) ≤ 10
    · rw [decide_eq_true c2, Bool.true_and]
      exact ev_else (by simp) (mlGood_l0 l hx (by omega) l.length 0 (by omega))
    · rw [decide_eq_false c2, Bool.false_and]
      exact ev_if rfl (Ev.now _)
  · refine ev_else (by simpa using c) ?_
    rw [decide_eq_false c, Bool.false_and]
    refine Ev.step (fun k => rfl) ?_
    simp only [spec_mlGood.j0]
    exact ev_if (by first | rfl | trivial) (Ev.now _)
theorem badRow_eq (n : Nat) (h : 1 ≤ (n : Int) ∧ (n : Int) ≤ 10) (x : ByteArray) : badRow n 10 (⟨#[35, 46]⟩ : ByteArray) x = !okRow n x := by
  unfold badRow okRow
  by_cases c : x.size = n
  · rw [decide_eq_true c, decide_eq_true (show 1 ≤ (x.size : Int) ∧ (x.size : Int) ≤ 10 by omega), ByteArray.toList_eq]
    show (!(Lib.trimS x.data.toList [35, 46]).isEmpty) = !(x.data.toList.all okSq)
    rw [show (Lib.trimS x.data.toList [35, 46]).isEmpty = (Lib.trimS x.data.toList [35, 46] == []) by cases Lib.trimS x.data.toList [35, 46] <;> rfl, trimS_all]
    congr 2
    funext b
    unfold okSq
    rw [List.contains_cons, List.contains_cons, List.contains_nil, Bool.or_false]
  · rw [decide_eq_false c]; rfl
theorem areRows_eq (l : List ByteArray) : impl_areRows.f l 10 (⟨#[35, 46]⟩ : ByteArray) = some (good l) := by
  unfold impl_areRows.f good
  rw [if_pos ⟨by omega, by decide, by decide⟩]
  congr 1
  by_cases c : 1 ≤ (l.length : Int) ∧ (l.length : Int) ≤ 10
  · congr 1
    by_cases c2 : 1 ≤ ((rdOf ByteArray.empty l 0).size : Int) ∧ ((rdOf ByteArray.empty l 0).size : Int) ≤ 10
    · rw [decide_eq_true c2, Bool.true_and, List.any_eq_not_all_not, Bool.not_not]
      congr 1
      funext x
      rw [badRow_eq _ c2, Bool.not_not]
    · rw [decide_eq_false c2, Bool.false_and]
      have h0 : 0 < l.length := by omega
      have e : rdOf ByteArray.empty l 0 = l[0] := rdOf_nat _ l 0 h0
      have : l.any (badRow (rdOf ByteArray.empty l 0).size 10 (⟨#[35, 46]⟩ : ByteArray)) = true := by
        rw [List.any_eq_true]
        refine ⟨l[0], List.getElem_mem h0, ?_⟩
        rw [← e]
        unfold badRow
        rw [decide_eq_false c2]
        simp
      rw [this]; rfl
  · rw [decide_eq_false c, Bool.false_and, Bool.false_and]
theorem isTablet_eq (l : List ByteArray) : impl_IsTablet.f l = some (good l) := by
  unfold impl_IsTablet.f
  rw [areRows_eq]; rfl

theorem markText_l0 (d : Nat) : ∀ (m : Int) (s : ByteArray), m.toNat ≤ d → 0 ≤ m → d + s.size ≤ 1125899906842624 → ∃ t, Ev (fun k => laws_markText.l0 k m s) t := by
  induction d with
  | zero =>
    intro m s h1 h2 h3
    refine ⟨(⟨#[109]⟩ : ByteArray) ++ s, Ev.step (fun k => rfl) ?_⟩
    simp only [laws_markText.l0]
    exact ev_else (by omega) (ev_if (by omega) (Ev.now _))
  | succ d ih =>
    intro m s h1 h2 h3
    by_cases g : m > 0
    · have e : Int.tdiv m 10 = m / 10 := Int.tdiv_eq_ediv_of_nonneg h2
      have e2 : wrap64 (Int.tdiv m 10) = m / 10 := by rw [e]; exact w64 (by omega) (by omega)
      have e3 : (strOfNums [(wrap64 (48 + Int.tmod m 10)) % 256]).size = 1 := str_size _
      obtain ⟨t, ht⟩ := ih (m / 10) (strOfNums [(wrap64 (48 + Int.tmod m 10)) % 256] ++ s) (by omega) (by omega) (by rw [ByteArray.size_append, e3]; omega)
      refine ⟨t, Ev.step (fun k => rfl) ?_⟩
      simp only [laws_markText.l0]
      refine ev_if g (ev_bind rfl (ev_if (by rw [e3]; omega) ?_))
      rw [e2]
      exact ht
    · exact ih m s (by omega) h2 (by omega)
theorem markText_ev : ∃ T : Int → ByteArray, ∀ m : Int, m ≤ 1099511627776 → Ev (fun k => laws_markText.f k m) (T m) := by
  have h : ∀ m : Int, ∃ t, m ≤ 1099511627776 → Ev (fun k => laws_markText.f k m) t := by
    intro m
    by_cases g : m ≤ 0
    · refine ⟨(⟨#[109, 48]⟩ : ByteArray), fun _ => ?_⟩
      unfold laws_markText.f
      exact ev_if g (Ev.now _)
    · by_cases g2 : m ≤ 1099511627776
      · obtain ⟨t, ht⟩ := markText_l0 m.toNat m ⟨#[]⟩ (Nat.le_refl _) (by omega) (by rw [show (⟨#[]⟩ : ByteArray).size = 0 from rfl]; omega)
        refine ⟨t, fun _ => ?_⟩
        unfold laws_markText.f
        exact ev_else g ht
      · exact ⟨⟨#[]⟩, fun h => absurd h g2⟩
  exact ⟨fun m => Classical.choose (h m), fun m => Classical.choose_spec (h m)⟩
def marksOf (T : Int → ByteArray) (n : Nat) : List ByteArray := (List.range n).map fun (i : Nat) => T (1 + (i : Int))
theorem marksOf_len (T : Int → ByteArray) (n : Nat) : (marksOf T n).length = n := by simp [marksOf]
theorem markStringS_l0 {T : Int → ByteArray} (hT : ∀ m : Int, m ≤ 1099511627776 → Ev (fun k => laws_markText.f k m) (T m)) (n : Nat) (hn : n ≤ 1048576) (d : Nat) : ∀ (j : Nat) (ys : List ByteArray), ys.length = n → (∀ i (h : i < ys.length), i < j → ys[i] = T (1 + (i : Int))) → j + d = n →
    Ev (fun k => laws_markStringS.l0 k ys (1 + (j : Int)) (j : Int)) (1 + (n : Int), marksOf T n) := by
  induction d with
  | zero =>
    intro j ys hl hv hj
    obtain rfl : j = n := by omega
    have e : ys = marksOf T j := List.ext_getElem (by rw [hl, marksOf_len]) (fun i h h' => by rw [hv i h (by omega)]; simp [marksOf])
    refine Ev.step (fun k => rfl) ?_
    simp only [laws_markStringS.l0]
    rw [e]
    exact ev_else (by rw [marksOf_len]; omega) (Ev.now _)
  | succ d ih =>
    intro j ys hl hv hj
    have h := ih (j + 1) (ys.set j (T (1 + (j : Int)))) (by simp [hl]) (by
      intro i h hi
      rw [List.getElem_set]
      by_cases e : j = i
      · subst e; simp
      · rw [if_neg e]; exact hv i (by simpa using h) (by omega)) (by omega)
    rw [show 1 + ((j + 1 : Nat) : Int) = 1 + (j : Int) + 1 by omega] at h
    refine Ev.step (fun k => rfl) ?_
    simp only [laws_markStringS.l0]
    refine ev_if (by omega) (Ev.bind (hT _ (by omega)) (ev_if (by omega) ?_))
    rw [Int.toNat_natCast, w64 (x := 1 + (j : Int) + 1) (by omega) (by omega), w64s (by omega)]
    exact h
theorem markStringS_ev {T : Int → ByteArray} (hT : ∀ m : Int, m ≤ 1099511627776 → Ev (fun k => laws_markText.f k m) (T m)) (xs : List ByteArray) (hn : xs.length ≤ 1048576) : Ev (fun k => laws_markStringS.f k xs 1) (1 + (xs.length : Int), marksOf T xs.length) :=
  markStringS_l0 hT xs.length hn xs.length 0 xs rfl (fun i _ hi => absurd hi (Nat.not_lt_zero _)) (by omega)

theorem heldStringS_l0 {T : Int → ByteArray} (hT : ∀ m : Int, m ≤ 1099511627776 → Ev (fun k => laws_markText.f k m) (T m)) (n : Nat) (hn : n ≤ 1048576) (d : Nat) : ∀ (j : Nat), j + d = n →
    Ev (fun k => laws_heldStringS.l0 k (marksOf T n) (1 + (j : Int)) (j : Int)) (1 + (n : Int)) := by
  have hl := marksOf_len T n
  induction d with
  | zero =>
    intro j hj
    obtain rfl : j = n := by omega
    refine Ev.step (fun k => rfl) ?_
    simp only [laws_heldStringS.l0]
    exact ev_else (by omega) (Ev.now _)
  | succ d ih =>
    intro j hj
    have h := ih (j + 1) (by omega)
    rw [show 1 + ((j + 1 : Nat) : Int) = 1 + (j : Int) + 1 by omega] at h
    refine Ev.step (fun k => rfl) ?_
    simp only [laws_heldStringS.l0]
    refine ev_if (by omega) (ev_if (by omega) (Ev.bind (hT _ (by omega)) (ev_if ?_ ?_)))
    · rw [rdOf_nat _ _ j (by omega)]; simp [marksOf]
    rw [w64 (x := 1 + (j : Int) + 1) (by omega) (by omega), w64s (by omega)]
    exact h
theorem heldStringS_ev {T : Int → ByteArray} (hT : ∀ m : Int, m ≤ 1099511627776 → Ev (fun k => laws_markText.f k m) (T m)) (n : Nat) (hn : n ≤ 1048576) : Ev (fun k => laws_heldStringS.f k (marksOf T n) 1) (1 + (n : Int)) :=
  heldStringS_l0 hT n hn n 0 (by omega)

/-! ### A tablet turned -/
theorem bt_byte (r : ByteArray) (x : Nat) (h : x < r.size) : r.extract x (x + 1) = strOfNums [bt r (x : Int)] := by
  have hl := sz_list r
  have hx : x < r.data.toList.length := by omega
  have e := bt_list r x hx
  apply ByteArray.ext
  apply Array.toList_inj.mp
  rw [ByteArray.data_extract, Array.toList_extract, e]
  have e2 : (strOfNums [((r.data.toList[x]'hx).toNat : Int)]).data.toList = [r.data.toList[x]'hx] := by simp [strOfNums]
  rw [e2]
  simp only [List.extract_eq_take_drop, Nat.add_sub_cancel_left]
  rw [List.drop_eq_getElem_cons hx, List.take_succ_cons, List.take_zero]
theorem colT_snoc (l : List ByteArray) (x : Int) (js : List Nat) (j : Nat) : colT l x (js ++ [j]) = colT l x js ++ [bt (rdOf ByteArray.empty l (j : Int)) x] := by simp [colT]
theorem colT_len (l : List ByteArray) (x : Int) (js : List Nat) : (colT l x js).length = js.length := by simp [colT]
theorem turn_l1 (l : List ByteArray) (w : Nat) (hn : l.length ≤ 10) (hw : w ≤ 10) (hr : ∀ j : Nat, j < l.length → (rdOf ByteArray.empty l (j : Int)).size = w) (x : Nat) (hx : x < w) (out : List ByteArray) (ho : out.length ≤ 1000) (R : List ByteArray × Bool)
    (hE : Ev (fun k => spec_TurnTablet.l0 k l (out ++ [rowT l x]) (wrap64 ((x : Int) + 1))) R) (d : Nat) : ∀ k : Nat, k + d = l.length →
    Ev (fun q => spec_TurnTablet.l1 q l out (x : Int) (strOfNums (colT l (x : Int) (bkT l.length k))) ((l.length : Int) - 1 - (k : Int))) R := by
  induction d with
  | zero =>
    intro k hk
    obtain rfl : k = l.length := by omega
    refine Ev.step (fun k => rfl) ?_
    simp only [spec_TurnTablet.l1]
    exact ev_else (by omega) (ev_if (by omega) hE)
  | succ d ih =>
    intro k hk
    have hn2 := ih (k + 1) (by omega)
    obtain ⟨j, hj⟩ : ∃ j, j = l.length - (k + 1) := ⟨_, rfl⟩
    have ej : (l.length : Int) - 1 - (k : Int) = (j : Int) := by omega
    have hjl : j < l.length := by omega
    have hsz := hr j hjl
    have e1 : bkT l.length (k + 1) = bkT l.length k ++ [j] := by rw [hj]; rfl
    rw [e1, colT_snoc, str_app, ← bt_byte _ x (by omega)] at hn2
    have e2 : wrap64 ((j : Int) - 1) = (l.length : Int) - 1 - ((k + 1 : Nat) : Int) := by rw [w64 (by omega) (by omega)]; omega
    have hs1 : (strOfNums (colT l (x : Int) (bkT l.length k))).size = k := by rw [str_size, colT_len, bkT_len]
    have hs2 : ((rdOf ByteArray.empty l (j : Int)).extract x (x + 1)).size ≤ 1 := by rw [ByteArray.size_extract]; omega
    refine Ev.step (fun k => rfl) ?_
    simp only [spec_TurnTablet.l1]
    rw [ej, e2, w64s (j := x) (by omega), Int.toNat_natCast, Int.toNat_natCast]
    exact ev_if (by omega) (ev_if (by omega) (ev_if (by omega) (ev_if (by omega) (ev_if (by omega) (ev_if (by omega) (ev_if (by omega) hn2))))))
theorem turn_l0 (l : List ByteArray) (w : Nat) (hn : 1 ≤ l.length ∧ l.length ≤ 10) (hw : w ≤ 10) (hw0 : (rdOf ByteArray.empty l 0).size = w) (hr : ∀ j : Nat, j < l.length → (rdOf ByteArray.empty l (j : Int)).size = w) (d : Nat) : ∀ x : Nat, x + d = w →
    Ev (fun k => spec_TurnTablet.l0 k l ((List.range x).map (rowT l)) (x : Int)) ((List.range w).map (rowT l), true) := by
  induction d with
  | zero =>
    intro x hx
    obtain rfl : x = w := by omega
    refine Ev.step (fun k => rfl) ?_
    simp only [spec_TurnTablet.l0]
    exact ev_if (by omega) (ev_else (by omega) (Ev.now _))
  | succ d ih =>
    intro x hx
    have hnx := ih (x + 1) (by omega)
    rw [List.range_succ, List.map_append] at hnx
    refine Ev.step (fun k => rfl) ?_
    simp only [spec_TurnTablet.l0]
    have e0 : wrap64 ((l.length : Int) - 1) = (l.length : Int) - 1 - ((0 : Nat) : Int) := by rw [w64 (by omega) (by omega)]; omega
    rw [e0]
    exact ev_if (by omega) (ev_if (by omega) (turn_l1 l w hn.2 hw hr x (by omega) _ (by rw [List.length_map, List.length_range]; omega) _ (by rw [w64s (by omega)]; exact hnx) l.length 0 (by omega)))
theorem turn_both (l : List ByteArray) (hl : l.length ≤ 1048576) : ∃ L : List ByteArray, ∃ ok : Bool, L.length ≤ 1048576 ∧ Ev (fun k => spec_TurnTablet.f k l) (L, ok) ∧ impl_TurnTablet.f l = some (L, ok) := by
  unfold spec_TurnTablet.f impl_TurnTablet.f
  rw [isTablet_eq]
  simp only [Option.bind_some]
  have ha := mlGood_ev l hl
  cases hg : good l with
  | false =>
    rw [hg] at ha
    exact ⟨[], false, by simp, Ev.bind ha (ev_else (by simp) (Ev.now _)), by rw [if_neg (by simp)]⟩
  | true =>
    rw [hg] at ha
    have h := hg
    unfold good at h
    simp only [Bool.and_eq_true, decide_eq_true_eq, List.all_eq_true] at h
    obtain ⟨⟨h1, h2⟩, ⟨h3, h4⟩, h5⟩ := h
    have h6 : ∀ r ∈ l, r.size = (rdOf ByteArray.empty l 0).size := by
      intro r hr
      have := h5 r hr
      unfold okRow at this
      rw [Bool.and_eq_true] at this
      exact of_decide_eq_true this.1
    have h7 : ∀ j : Nat, j < l.length → (rdOf ByteArray.empty l (j : Int)).size = (rdOf ByteArray.empty l 0).size := by
      intro j hj
      rw [rdOf_nat _ _ j hj]
      exact h6 _ (List.getElem_mem hj)
    refine ⟨(List.range (rdOf ByteArray.empty l 0).size).map (rowT l), true, by rw [List.length_map, List.length_range]; omega, Ev.bind ha (ev_if rfl (turn_l0 l _ (by omega) (by omega) rfl h7 (rdOf ByteArray.empty l 0).size 0 (by omega))), ?_⟩
    rw [if_pos rfl]
    unfold impl_turned.f
    rw [if_pos ⟨by omega, by omega, by omega, by unfold allSame; rw [List.all_eq_true]; exact fun r hr => decide_eq_true (h6 r hr)⟩]
    rfl

theorem FnExactTurnTablet : laws_FnExactTurnTablet.Pure := by
  intro l h1 _ h3
  apply Ev.rounds (r := true)
  obtain ⟨T, hT⟩ := markText_ev
  unfold laws_FnExactTurnTablet.f
  obtain ⟨r, hr, hr2⟩ := szS_ev l h1 h3
  refine Ev.bind hr ?_
  by_cases c : r < 0
  · exact ev_if c (Ev.now _)
  have hl := hr2 c
  obtain ⟨L, ok, hL, hs, hi'⟩ := turn_both l hl
  refine ev_else c (Ev.bind (toS_ev l hl) (Ev.bind hs (Ev.bind (toS_ev l hl) (ev_bind hi' (Ev.bind (eqStringS_self L hL) (ev_if rfl ?_))))))
  refine Ev.step (fun k => rfl) ?_
  simp only [laws_FnExactTurnTablet.j0]
  refine ev_else (by simp) (Ev.bind (toS_ev l hl) (Ev.bind (eqStringS_self l hl) (ev_if rfl (Ev.bind (markStringS_ev hT l hl) (ev_else (by omega) (Ev.bind (eqStringS_self L hL) (ev_if rfl ?_)))))))
  refine Ev.step (fun k => rfl) ?_
  simp only [laws_FnExactTurnTablet.j1]
  refine ev_else (by simp) (Ev.bind (markStringS_ev hT L hL) (Ev.bind (heldStringS_ev hT L.length hL) (ev_else (by omega) (ev_if rfl (Ev.bind (toS_ev l hl) (ev_bind hi' (Ev.bind (eqStringS_self L hL) (ev_if rfl ?_))))))))
  refine Ev.step (fun k => rfl) ?_
  simp only [laws_FnExactTurnTablet.j2]
  exact ev_else (by simp) (Ev.bind (heldStringS_ev hT L.length hL) (ev_else (by omega) (ev_if rfl (Ev.now _))))

end Go.Proofs.YtghfhcmjnpjgdaaDoor.Pure
