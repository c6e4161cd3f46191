/- For all arguments the program's OpenSides returns what the reference's OpenSides returns. Condition: the package variables unicode/utf8.first and unicode/utf8.acceptRanges hold what the library's text lays. -/
import Derived.Test.YtghfhcmjnpjgdaaDoorO6
namespace Go.Proofs.YtghfhcmjnpjgdaaDoor.Pure
open Go.RowKit Go.Proofs.YtghfhcmjnpjgdaaDoor.O Go.Proofs.YtghfhcmjnpjgdaaDoorW.PrintWords Go.Proofs.YtghfhcmjnpjgdaaDoorW.PrintLast
set_option linter.unusedVariables false
set_option linter.unusedSimpArgs false

theorem w64 {x : Int} (h0 : -9223372036854775808 ≤ x) (h1 : x ≤ 9223372036854775807) : wrap64 x = x := by
  unfold wrap64
  omega
theorem wf_i64 {x : Int} (h : (Lit.int .i64 x).wf = true) : -9223372036854775808 ≤ x ∧ x ≤ 9223372036854775807 := by
  have hmin : IntKind.i64.min = -9223372036854775808 := rfl
  have hmax : IntKind.i64.max = 9223372036854775807 := rfl
  simp only [Lit.wf, Bool.and_eq_true, decide_eq_true_eq] at h
  omega

theorem two {α β : Type} {g : Nat → Option α} {f : Nat → Option β} {a : α} {b : β} (h : Ev g a) (h' : Ev f b) : ∃ k, g k = some a ∧ f k = some b := by
  obtain ⟨K, h⟩ := h
  obtain ⟨K', h'⟩ := h'
  exact ⟨max K K', h _ (by omega), h' _ (by omega)⟩
theorem str_app (xs ys : List Int) : strOfNums (xs ++ ys) = strOfNums xs ++ strOfNums ys := by
  apply ByteArray.ext
  simp [strOfNums]
theorem str_nil : strOfNums [] = (⟨#[]⟩ : ByteArray) := rfl
theorem str_size (xs : List Int) : (strOfNums xs).size = xs.length := by simp [strOfNums, ByteArray.size]
theorem ba_nil_app (b : ByteArray) : (⟨#[]⟩ : ByteArray) ++ b = b := by
  apply ByteArray.ext
  simp
theorem ba_app_nil (b : ByteArray) : b ++ (⟨#[]⟩ : ByteArray) = b := by
  apply ByteArray.ext
  simp
theorem ba_assoc (a b c : ByteArray) : a ++ b ++ c = a ++ (b ++ c) := by
  apply ByteArray.ext
  simp
theorem ev_if {α : Type} {c : Prop} [Decidable c] {g f : Nat → Option α} {r : α} (hc : c) (h : Ev g r) : Ev (fun k => if c then g k else f k) r :=
  Ev.congr (fun k => if_pos hc) h
theorem ev_else {α : Type} {c : Prop} [Decidable c] {g f : Nat → Option α} {r : α} (hc : ¬ c) (h : Ev f r) : Ev (fun k => if c then g k else f k) r :=
  Ev.congr (fun k => if_neg hc) h
theorem ev_bind {α β : Type} {a : α} {o : Option α} {f : Nat → α → Option β} {r : β} (h : o = some a) (k : Ev (fun n => f n a) r) : Ev (fun n => o.bind (f n)) r :=
  Ev.congr (fun n => by rw [h]; rfl) k

theorem l1In_eq (a b c : Int) : spec_l1In.f a b c = some (decide (b ≤ a ∧ a ≤ c)) := by
  unfold spec_l1In.f
  by_cases h : b ≤ a
  · rw [if_pos (show a ≥ b from h)]; simp [h]
  · rw [if_neg (show ¬ a ≥ b from h)]; simp [h]
theorem within_eq (a b c : Int) : impl_within.f a b c = some (decide (b ≤ a ∧ a ≤ c)) := by
  unfold impl_within.f
  by_cases h : b ≤ a
  · rw [if_pos h]; simp [h]
  · rw [if_neg h]; simp [h]
theorem within_l1In (a b c : Int) : impl_within.f a b c = spec_l1In.f a b c := by rw [within_eq, l1In_eq]

/-! ### Texts -/
theorem w64s {j : Nat} (h : j < 9223372036854775807) : wrap64 ((j : Int) + 1) = ((j + 1 : Nat) : Int) := by
  rw [w64 (by omega) (by omega)]; omega
theorem rdOf_nat {α : Type} (d : α) (xs : List α) (j : Nat) (h : j < xs.length) : rdOf d xs (j : Int) = xs[j] := by
  simp [rdOf, List.getD_eq_getElem?_getD, List.getElem?_eq_getElem h]
theorem eqStringS_l0 (xs : List ByteArray) (hx : xs.length ≤ 1048576) (d : Nat) : ∀ j : Nat, j + d = xs.length → Ev (fun k => laws_eqStringS.l0 k xs xs (j : Int)) true := by
  induction d with
  | zero =>
    intro j hj
    refine Ev.step (fun k => rfl) ?_
    simp only [laws_eqStringS.l0]
    exact ev_else (by omega) (Ev.now _)
  | succ d ih =>
    intro j hj
    refine Ev.step (fun k => rfl) ?_
    simp only [laws_eqStringS.l0]
    refine ev_if (by omega) (ev_if (by omega) (ev_if (by omega) (ev_if ?_ ?_)))
    · first | rfl | trivial
    rw [w64s (by omega)]
    exact ih (j + 1) (by omega)
theorem eqStringS_self (xs : List ByteArray) (hx : xs.length ≤ 1048576) : Ev (fun k => laws_eqStringS.f k xs xs) true := by
  unfold laws_eqStringS.f
  exact ev_if rfl (eqStringS_l0 xs hx xs.length 0 (by omega))

/-! ### Bytes of a text -/
theorem sz_list (s : ByteArray) : s.data.toList.length = s.size := by rw [Array.length_toList]; rfl
theorem bt_list (s : ByteArray) (j : Nat) (h : j < s.data.toList.length) : bt s (j : Int) = ((s.data.toList[j]'h).toNat : Int) := by
  rw [sz_list] at h
  unfold bt
  rw [dif_pos (by rw [Int.toNat_natCast]; exact h)]
  simp only [Int.toNat_natCast]
  rfl
theorem u8_eq (b : UInt8) (n : Nat) (c : UInt8) (hc : c.toNat = n) : ((b.toNat : Int) = (n : Int)) ↔ b = c := by
  constructor
  · intro h
    apply UInt8.toNat_inj.mp
    omega
  · rintro rfl
    rw [hc]
theorem dw_nil {α : Type} (p : α → Bool) (l : List α) : l.all p = true → l.dropWhile p = [] := by
  induction l with
  | nil => intro _; rfl
  | cons a l ih =>
    intro h
    rw [List.all_cons, Bool.and_eq_true] at h
    rw [List.dropWhile_cons, if_pos h.1]
    exact ih h.2
theorem dw_all {α : Type} (p : α → Bool) (l : List α) : (l.dropWhile p).all p = true → l.all p = true := by
  induction l with
  | nil => intro _; rfl
  | cons a l ih =>
    intro h
    rw [List.dropWhile_cons] at h
    by_cases c : p a = true
    · rw [if_pos c] at h
      rw [List.all_cons, c, ih h]; rfl
    · rw [if_neg c] at h
      exact h
theorem trimS_all (l cs : List UInt8) : (Lib.trimS l cs == []) = l.all (cs.contains ·) := by
  cases h : l.all (cs.contains ·) with
  | true =>
    have hr : l.reverse.all (cs.contains ·) = true := by rw [List.all_reverse]; exact h
    have e : Lib.trimRightS l cs = [] := by
      unfold Lib.trimRightS
      rw [dw_nil _ _ hr]; rfl
    unfold Lib.trimS
    rw [e]
    rfl
  | false =>
    rw [beq_eq_false_iff_ne]
    intro e
    have h1 : (Lib.trimRightS l cs).all (cs.contains ·) = true := by
      refine dw_all _ _ ?_
      have e' : List.dropWhile (cs.contains ·) (Lib.trimRightS l cs) = [] := e
      rw [e']
      rfl
    have h2 : (l.reverse.dropWhile (cs.contains ·)).all (cs.contains ·) = true := by
      have h3 := h1
      unfold Lib.trimRightS at h3
      rw [List.all_reverse] at h3
      exact h3
    have h4 := dw_all _ _ h2
    rw [List.all_reverse, h] at h4
    cases h4

/-! ### Arguments: lists of texts -/
theorem szS_l0 (xs : List ByteArray) (hx : xs.length ≤ 1048576) (hs : ∀ x ∈ xs, x.size ≤ 9223372036854775807) (d : Nat) : ∀ (j : Nat) (left : Int), j + d = xs.length → 0 ≤ left → left ≤ 1048576 → ∃ r, Ev (fun k => laws_szStringS.l0 k xs left (j : Int)) r := by
  induction d with
  | zero =>
    intro j left hj h0 h1
    refine ⟨left, Ev.step (fun k => rfl) ?_⟩
    simp only [laws_szStringS.l0]
    exact ev_else (by omega) (Ev.now _)
  | succ d ih =>
    intro j left hj h0 h1
    have hl : j < xs.length := by omega
    have hb := hs _ (List.getElem_mem hl)
    have e : wrap64 (left - (xs[j].size : Int)) = left - (xs[j].size : Int) := w64 (by omega) (by omega)
    by_cases c : left - (xs[j].size : Int) < 0
    · refine ⟨-1, Ev.step (fun k => rfl) ?_⟩
      simp only [laws_szStringS.l0]
      rw [rdOf_nat _ _ j hl, e]
      exact ev_if (by omega) (ev_if (by omega) (ev_if c (Ev.now _)))
    · obtain ⟨r, hr⟩ := ih (j + 1) (left - (xs[j].size : Int)) (by omega) (by omega) (by omega)
      refine ⟨r, Ev.step (fun k => rfl) ?_⟩
      simp only [laws_szStringS.l0]
      rw [rdOf_nat _ _ j hl, e, w64s (by omega)]
      exact ev_if (by omega) (ev_if (by omega) (ev_else c hr))
theorem szS_ev (xs : List ByteArray) (h1 : xs.length ≤ 9223372036854775807) (hs : ∀ x ∈ xs, x.size ≤ 9223372036854775807) : ∃ r, Ev (fun k => laws_szStringS.f k xs 1048576) r ∧ (¬ r < 0 → xs.length ≤ 1048576) := by
  unfold laws_szStringS.f
  have e : wrap64 (1048576 - (xs.length : Int)) = 1048576 - (xs.length : Int) := w64 (by omega) (by omega)
  rw [e]
  by_cases c : 1048576 - (xs.length : Int) < 0
  · exact ⟨-1, ev_if c (Ev.now _), fun h => absurd (show (-1 : Int) < 0 by omega) h⟩
  · obtain ⟨r, hr⟩ := szS_l0 xs (by omega) hs xs.length 0 (1048576 - (xs.length : Int)) (by omega) (by omega) (by omega)
    exact ⟨r, ev_else c hr, fun _ => by omega⟩
theorem toS_l0 (xs : List ByteArray) (hx : xs.length ≤ 1048576) (d : Nat) : ∀ j : Nat, j + d = xs.length → Ev (fun k => laws_toStringS.l0 k xs (xs.take j ++ List.replicate d (⟨#[]⟩ : ByteArray)) (j : Int)) xs := by
  induction d with
  | zero =>
    intro j hj
    refine Ev.step (fun k => rfl) ?_
    simp only [laws_toStringS.l0]
    rw [List.take_of_length_le (by omega), List.replicate_zero, List.append_nil]
    exact ev_else (by omega) (Ev.now _)
  | succ d ih =>
    intro j hj
    have hl : j < xs.length := by omega
    have ht : (xs.take j).length = j := by rw [List.length_take]; omega
    have e : (xs.take j ++ List.replicate (d + 1) (⟨#[]⟩ : ByteArray)).set j xs[j] = xs.take (j + 1) ++ List.replicate d (⟨#[]⟩ : ByteArray) := by
      rw [List.set_append, if_neg (by omega), ht, Nat.sub_self, List.replicate_succ, List.set_cons_zero, List.take_succ_eq_append_getElem hl, List.append_assoc]
      rfl
    refine Ev.step (fun k => rfl) ?_
    simp only [laws_toStringS.l0]
    rw [rdOf_nat _ _ j hl, Int.toNat_natCast, e, w64s (by omega)]
    exact ev_if (by omega) (ev_if (by omega) (ev_if (by rw [List.length_append, List.length_replicate, ht]; omega) (ih (j + 1) (by omega))))
theorem toS_ev (xs : List ByteArray) (hx : xs.length ≤ 1048576) : Ev (fun k => laws_toStringS.f k xs) xs := by
  unfold laws_toStringS.f
  rw [Int.toNat_natCast]
  exact ev_if (by omega) (ev_if (by omega) (toS_l0 xs hx xs.length 0 (by omega)))

/-! ### Tablets -/
def okSq (b : UInt8) : Bool := b == 35 || b == 46
def okRow (n : Nat) (r : ByteArray) : Bool := decide (r.size = n) && r.data.toList.all okSq
def good (l : List ByteArray) : Bool :=
  decide (1 ≤ (l.length : Int) ∧ (l.length : Int) ≤ 10) && (decide (1 ≤ ((rdOf ByteArray.empty l 0).size : Int) ∧ ((rdOf ByteArray.empty l 0).size : Int) ≤ 10) && l.all (okRow (rdOf ByteArray.empty l 0).size))
theorem mlGood_l1 (l : List ByteArray) (r : ByteArray) (hr : r.size ≤ 1048576) (i : Int) (n : Nat) (b : Bool) (hE : Ev (fun k => spec_mlGood.l0 k l l (n : Int) (wrap64 (i + 1))) b) (d : Nat) :
    ∀ j : Nat, j + d = r.size → Ev (fun k => spec_mlGood.l1 k l r (j : Int) l (n : Int) i) ((r.data.toList.drop j).all okSq && b) := by
  have hl := sz_list r
  induction d with
  | zero =>
    intro j hj
    refine Ev.step (fun k => rfl) ?_
    simp only [spec_mlGood.l1]
    rw [List.drop_of_length_le (by omega)]
    exact ev_else (by omega) hE
  | succ d ih =>
    intro j hj
    have hj' : j < r.data.toList.length := by omega
    rw [List.drop_eq_getElem_cons hj', List.all_cons]
    refine Ev.step (fun k => rfl) ?_
    simp only [spec_mlGood.l1]
    rw [bt_list r j hj', w64s (by omega)]
    have h1 := u8_eq (r.data.toList[j]) 35 35 rfl
    have h2 := u8_eq (r.data.toList[j]) 46 46 rfl
    refine ev_if (by omega) (ev_if (by omega) ?_)
    by_cases c1 : r.data.toList[j] = 35
    · have e : okSq r.data.toList[j] = true := by rw [c1]; rfl
      rw [e, Bool.true_and]
      exact ev_if (h1.mpr c1) (ih (j + 1) (by omega))
    · by_cases c2 : r.data.toList[j] = 46
      · have e : okSq r.data.toList[j] = true := by rw [c2]; rfl
        rw [e, Bool.true_and]
        exact ev_else (fun h => c1 (h1.mp h)) (ev_if (h2.mpr c2) (ih (j + 1) (by omega)))
      · have e : okSq r.data.toList[j] = false := by unfold okSq; rw [beq_false_of_ne c1, beq_false_of_ne c2]; rfl
        rw [e, Bool.false_and, Bool.false_and]
        exact ev_else (fun h => c1 (h1.mp h)) (ev_else (fun h => c2 (h2.mp h)) (Ev.now _))
theorem mlGood_l0 (l : List ByteArray) (hx : l.length ≤ 1048576) (hn : (rdOf ByteArray.empty l 0).size ≤ 1048576) (d : Nat) :
    ∀ j : Nat, j + d = l.length → Ev (fun k => spec_mlGood.l0 k l l (l.length : Int) (j : Int)) ((l.drop j).all (okRow (rdOf ByteArray.empty l 0).size)) := by
  induction d with
  | zero =>
    intro j hj
    refine Ev.step (fun k => rfl) ?_
    simp only [spec_mlGood.l0]
    rw [List.drop_of_length_le (by omega)]
    exact ev_else (by omega) (Ev.now _)
  | succ d ih =>
    intro j hj
    have hl : j < l.length := by omega
    have hE := ih (j + 1) (by omega)
    rw [List.drop_eq_getElem_cons hl, List.all_cons]
    refine Ev.step (fun k => rfl) ?_
    simp only [spec_mlGood.l0]
    rw [rdOf_nat _ _ j hl]
    refine ev_if (by omega) (ev_if (by omega) (ev_if (by omega) (ev_if (by omega) ?_)))
    by_cases c : l[j].size = (rdOf ByteArray.empty l 0).size
    · refine ev_if (by omega) ?_
      have h := mlGood_l1 l l[j] (by omega) (j : Int) l.length _ (by rw [w64s (by omega)]; exact hE) l[j].size 0 (by omega)
      rw [List.drop_zero] at h
      unfold okRow at h ⊢
      rw [decide_eq_true c, Bool.true_and]
      exact h
    · refine ev_else (by omega) ?_
      rw [show okRow (rdOf ByteArray.empty l 0).size l[j] = false by unfold okRow; rw [decide_eq_false c]; rfl, Bool.false_and]
      exact Ev.now _
theorem mlGood_ev (l : List ByteArray) (hx : l.length ≤ 1048576) : Ev (fun k => spec_mlGood.f k l) (good l) := by
  unfold spec_mlGood.f good
  simp only [l1In_eq, Option.bind_some]
  by_cases c : 1 ≤ (l.length : Int) ∧ (l.length : Int) ≤ 10
  · refine ev_if (by simpa using c) (ev_if (by omega) ?_)
    rw [decide_eq_true c, Bool.true_and]
    refine Ev.step (fun k => rfl) ?_
    simp only [spec_mlGood.j0]
    by_cases c2 : 1 ≤ ((rdOf ByteArray.empty l 0).size : Int) ∧ ((rdOf ByteArray.empty l 0).size : Int) ≤ 10
    · rw [decide_eq_true c2, Bool.true_and]
      exact ev_else (by simp) (mlGood_l0 l hx (by omega) l.length 0 (by omega))
    · rw [decide_eq_false c2, Bool.false_and]
      exact ev_if rfl (Ev.now _)
  · refine ev_else (by simpa using c) ?_
    rw [decide_eq_false c, Bool.false_and]
    refine Ev.step (fun k => rfl) ?_
    simp only [spec_mlGood.j0]
    exact ev_if (by first | rfl | trivial) (Ev.now _)
theorem badRow_eq (n : Nat) (h : 1 ≤ (n : Int) ∧ (n : Int) ≤ 10) (x : ByteArray) : badRow n 10 (⟨#[35, 46]⟩ : ByteArray) x = !okRow n x := by
  unfold badRow okRow
  by_cases c : x.size = n
  · rw [decide_eq_true c, decide_eq_true (show 1 ≤ (x.size : Int) ∧ (x.size : Int) ≤ 10 by omega), ByteArray.toList_eq]
    show (!(Lib.trimS x.data.toList [35, 46]).isEmpty) = !(x.data.toList.all okSq)
    rw [show (Lib.trimS x.data.toList [35, 46]).isEmpty = (Lib.trimS x.data.toList [35, 46] == []) by cases Lib.trimS x.data.toList [35, 46] <;> rfl, trimS_all]
    congr 2
    funext b
    unfold okSq
    rw [List.contains_cons, List.contains_cons, List.contains_nil, Bool.or_false]
  · rw [decide_eq_false c]; rfl
theorem areRows_eq (l : List ByteArray) : impl_areRows.f l 10 (⟨#[35, 46]⟩ : ByteArray) = some (good l) := by
  unfold impl_areRows.f good
  rw [if_pos ⟨by omega, by decide, by decide⟩]
  congr 1
  by_cases c : 1 ≤ (l.length : Int) ∧ (l.length : Int) ≤ 10
  · congr 1
    by_cases c2 : 1 ≤ ((rdOf ByteArray.empty l 0).size : Int) ∧ ((rdOf ByteArray.empty l 0).size : Int) ≤ 10
    · rw [decide_eq_true c2, Bool.true_and, List.any_eq_not_all_not, Bool.not_not]
      congr 1
      funext x
      rw [badRow_eq _ c2, Bool.not_not]
    · rw [decide_eq_false c2, Bool.false_and]
      have h0 : 0 < l.length := by omega
      have e : rdOf ByteArray.empty l 0 = l[0] := rdOf_nat _ l 0 h0
      have : l.any (badRow (rdOf ByteArray.empty l 0).size 10 (⟨#[35, 46]⟩ : ByteArray)) = true := by
        rw [List.any_eq_true]
        refine ⟨l[0], List.getElem_mem h0, ?_⟩
        rw [← e]
        unfold badRow
        rw [decide_eq_false c2]
        simp
      rw [this]; rfl
  · rw [decide_eq_false c, Bool.false_and, Bool.false_and]
theorem isTablet_eq (l : List ByteArray) : impl_IsTablet.f l = some (good l) := by
  unfold impl_IsTablet.f
  rw [areRows_eq]; rfl

/-! ### Tablets -/
def sqb (b : Bool) : UInt8 := if b then 35 else 46
/-- A row's text. -/
def rowOf (r : List Bool) : ByteArray := ⟨(r.map sqb).toArray⟩
theorem rowOf_size (r : List Bool) : (rowOf r).size = r.length := by simp [rowOf, ByteArray.size]
theorem rowOf_snoc (r : List Bool) (b : Bool) : rowOf (r ++ [b]) = rowOf r ++ (⟨#[sqb b]⟩ : ByteArray) := by
  apply ByteArray.ext
  simp [rowOf]
theorem flat_len (w : Nat) (rows : List (List Bool)) (h : ∀ r ∈ rows, r.length = w) : rows.flatten.length = w * rows.length := by
  induction rows with
  | nil => simp
  | cons r rows ih =>
    rw [List.flatten_cons, List.length_append, List.length_cons, ih (fun s hs => h s (List.mem_cons_of_mem _ hs)), h r (by simp), Nat.mul_succ]
    omega
theorem flat_slice (w : Nat) (rows : List (List Bool)) (h : ∀ r ∈ rows, r.length = w) (j : Nat) (hj : j < rows.length) : (rows.flatten.take (w * j + w)).drop (w * j) = rows[j] := by
  have e : rows = rows.take j ++ rows[j] :: rows.drop (j + 1) := by
    rw [← List.drop_eq_getElem_cons hj, List.take_append_drop]
  have h1 : (rows.take j).flatten.length = w * j := by
    rw [flat_len w _ (fun r hr => h r (List.mem_of_mem_take hr)), List.length_take, Nat.min_eq_left (by omega)]
  have h2 : rows[j].length = w := h _ (List.getElem_mem hj)
  have e2 : rows.flatten = (rows.take j).flatten ++ (rows[j] ++ (rows.drop (j + 1)).flatten) := by
    conv => lhs; rw [e]
    rw [List.flatten_append, List.flatten_cons]
  rw [e2, List.take_append, h1, List.take_of_length_le (l := (rows.take j).flatten) (by rw [h1]; omega), show w * j + w - w * j = w by omega, List.take_append, List.take_of_length_le (l := rows[j]) (by omega), h2, Nat.sub_self, List.take_zero, List.append_nil]
  rw [← h1, List.drop_left]

/-! ### Tablets as rows of squares -/
theorem sqb_is (b : UInt8) (h : okSq b = true) : sqb (b == 35) = b := by
  unfold okSq at h
  by_cases c : b = 35
  · subst c; rfl
  · rw [beq_false_of_ne c, Bool.false_or, beq_iff_eq] at h
    subst h; rfl
def gridOf (l : List ByteArray) : List (List Bool) := l.map fun r => r.data.toList.map (· == 35)
theorem rowOf_grid (r : ByteArray) (h : r.data.toList.all okSq = true) : rowOf (r.data.toList.map (· == 35)) = r := by
  apply ByteArray.ext
  show ((r.data.toList.map (· == 35)).map sqb).toArray = r.data
  rw [List.map_map, (List.map_congr_left (fun b hb => sqb_is b (List.all_eq_true.1 h b hb)) : r.data.toList.map (sqb ∘ (· == 35)) = r.data.toList.map id), List.map_id]
theorem good_grid (l : List ByteArray) (h : good l = true) : ∃ (w : Nat) (rows : List (List Bool)), l = rows.map rowOf ∧ (1 ≤ w ∧ w ≤ 10) ∧ (1 ≤ rows.length ∧ rows.length ≤ 10) ∧ ∀ r ∈ rows, r.length = w := by
  unfold good at h
  simp only [Bool.and_eq_true, decide_eq_true_eq, List.all_eq_true] at h
  obtain ⟨⟨h1, h2⟩, ⟨h3, h4⟩, h5⟩ := h
  have h6 : ∀ r ∈ l, r.size = (rdOf ByteArray.empty l 0).size ∧ r.data.toList.all okSq = true := by
    intro r hr
    have := h5 r hr
    unfold okRow at this
    rw [Bool.and_eq_true] at this
    exact ⟨of_decide_eq_true this.1, this.2⟩
  refine ⟨(rdOf ByteArray.empty l 0).size, gridOf l, ?_, by omega, by unfold gridOf; rw [List.length_map]; omega, ?_⟩
  · unfold gridOf
    rw [List.map_map]
    exact ((List.map_congr_left (fun r hr => rowOf_grid r (h6 r hr).2) : l.map (rowOf ∘ fun r => r.data.toList.map (· == 35)) = l.map id).trans (List.map_id _)).symm
  · intro r hr
    unfold gridOf at hr
    obtain ⟨s, hs, rfl⟩ := List.mem_map.1 hr
    rw [List.length_map, sz_list]
    exact (h6 s hs).1
theorem rowOf_list (r : List Bool) : (rowOf r).data.toList = r.map sqb := by simp [rowOf]
theorem bt_row (r : List Bool) (i : Nat) (h : i < r.length) : (bt (rowOf r) (i : Int) == 35) = r[i] := by
  have h' : i < (rowOf r).data.toList.length := by rw [rowOf_list, List.length_map]; exact h
  have e : (rowOf r).data.toList[i] = sqb r[i] := by simp [rowOf_list]
  rw [bt_list (rowOf r) i h', e]
  cases r[i] <;> rfl
theorem rd_row (rows : List (List Bool)) (j : Nat) (h : j < rows.length) : rdOf ByteArray.empty (rows.map rowOf) (j : Int) = rowOf rows[j] := by
  rw [rdOf_nat _ _ j (by rw [List.length_map]; exact h), List.getElem_map]
theorem rd_row0 (w : Nat) (rows : List (List Bool)) (h : 1 ≤ rows.length) (hr : ∀ r ∈ rows, r.length = w) : (rdOf ByteArray.empty (rows.map rowOf) 0).size = w := by
  have e : rdOf ByteArray.empty (rows.map rowOf) 0 = rowOf rows[0] := rd_row rows 0 h
  rw [e, rowOf_size]
  exact hr _ (List.getElem_mem h)
/-- Is there a square at a place? -/
def atG (w : Nat) (rows : List (List Bool)) (x y : Int) : Bool :=
  if (0 ≤ y ∧ y ≤ (rows.length : Int) - 1) ∧ (0 ≤ x ∧ x ≤ (w : Int) - 1) then (rows.getD y.toNat []).getD x.toNat false else false
theorem atG_nat (w : Nat) (rows : List (List Bool)) (hr : ∀ r ∈ rows, r.length = w) (x y : Nat) (hy : y < rows.length) (hx : x < rows[y].length) : atG w rows (x : Int) (y : Int) = rows[y][x] := by
  have hw := hr _ (List.getElem_mem hy)
  unfold atG
  rw [if_pos ⟨by omega, by omega⟩, Int.toNat_natCast, Int.toNat_natCast]
  simp [List.getD_eq_getElem?_getD, List.getElem?_eq_getElem hy, List.getElem?_eq_getElem hx]
theorem flat_le (w : Nat) (rows : List (List Bool)) (hw : 1 ≤ w ∧ w ≤ 10) (hn : 1 ≤ rows.length ∧ rows.length ≤ 10) (hr : ∀ r ∈ rows, r.length = w) : rows.flatten.length ≤ 100 := by
  rw [flat_len w rows hr]
  exact Nat.mul_le_mul hw.2 hn.2

theorem mlAt_eq (w : Nat) (rows : List (List Bool)) (hw : 1 ≤ w ∧ w ≤ 10) (hn : 1 ≤ rows.length ∧ rows.length ≤ 10) (hr : ∀ r ∈ rows, r.length = w) (x y : Int) : spec_mlAt.f (rows.map rowOf) x y = some (atG w rows x y) := by
  unfold spec_mlAt.f
  simp only [l1In_eq, Option.bind_some, List.length_map]
  rw [rd_row0 w rows hn.1 hr, w64 (x := (rows.length : Int) - 1) (by omega) (by omega), w64 (x := (w : Int) - 1) (by omega) (by omega)]
  by_cases c : 0 ≤ y ∧ y ≤ (rows.length : Int) - 1
  · rw [if_pos (decide_eq_true c), if_pos (by omega)]
    by_cases c2 : 0 ≤ x ∧ x ≤ (w : Int) - 1
    · rw [if_pos (decide_eq_true c2)]
      obtain ⟨j, rfl⟩ := Int.eq_ofNat_of_zero_le c.1
      obtain ⟨i, rfl⟩ := Int.eq_ofNat_of_zero_le c2.1
      have hj : j < rows.length := by omega
      have hl := hr _ (List.getElem_mem hj)
      rw [rd_row rows j hj, rowOf_size, hl, if_pos (by omega), if_pos (by omega), if_pos (by omega), if_pos (by omega), bt_row _ i (by omega), atG_nat w rows hr i j hj (by omega)]
    · rw [if_neg (by rw [decide_eq_false c2]; simp)]
      unfold atG
      rw [if_neg (fun h => c2 h.2)]
  · rw [if_neg (by rw [decide_eq_false c]; simp)]
    unfold atG
    rw [if_neg (fun h => c h.1)]

theorem has_eq (w : Nat) (rows : List (List Bool)) (hw : 1 ≤ w ∧ w ≤ 10) (hn : 1 ≤ rows.length ∧ rows.length ≤ 10) (hr : ∀ r ∈ rows, r.length = w) (x y : Int) : impl_has.f (rows.map rowOf) x y = some (atG w rows x y) := by
  rw [← mlAt_eq w rows hw hn hr x y]
  unfold impl_has.f spec_mlAt.f
  simp only [within_eq, l1In_eq]
theorem atG_in (w : Nat) (rows : List (List Bool)) (x y : Int) (h : atG w rows x y = true) : ∃ i j : Nat, x = i ∧ y = j ∧ j < rows.length ∧ i < w := by
  unfold atG at h
  split at h
  · rename_i c
    exact ⟨x.toNat, y.toNat, by omega, by omega, by omega, by omega⟩
  · cases h

/-! ### Open sides -/
theorem os_bound (B : Nat → Bool) (j : Nat) (hj : j ≤ 1000) : 0 ≤ osAcc B j ∧ osAcc B j ≤ j := by
  induction j with
  | zero => exact ⟨Int.le_refl _, Int.le_refl _⟩
  | succ j ih =>
    have := ih (by omega)
    have h2 : 0 ≤ notI (B j) ∧ notI (B j) ≤ 1 := by unfold notI; split <;> omega
    simp only [osAcc]
    rw [w64 (by omega) (by omega)]
    omega
theorem mlOpen_l0 (l : List ByteArray) (x y : Int) (B : Nat → Bool) (hB : ∀ j : Nat, j < 4 → spec_mlAt.f l (wrap64 (x + rd [0, 1, 0, -1] (j : Int))) (wrap64 (y + rd [-1, 0, 1, 0] (j : Int))) = some (B j)) (d : Nat) :
    ∀ j : Nat, j + d = 4 → Ev (fun k => spec_mlOpen.l0 k l x y (osAcc B j) (j : Int)) (osAcc B 4) := by
  induction d with
  | zero =>
    intro j hj
    obtain rfl : j = 4 := by omega
    refine Ev.step (fun k => rfl) ?_
    simp only [spec_mlOpen.l0]
    exact ev_else (by omega) (Ev.now _)
  | succ d ih =>
    intro j hj
    have h := ih (j + 1) (by omega)
    have hb := os_bound B j (by omega)
    refine Ev.step (fun k => rfl) ?_
    simp only [spec_mlOpen.l0]
    rw [w64s (by omega)]
    refine ev_if (by omega) (ev_bind rfl (ev_if (by omega) (ev_if (by show (j : Int) < 4; omega) (ev_bind rfl (ev_if (by show (j : Int) < 4; omega) (ev_bind (hB j (by omega)) ?_))))))
    simp only [osAcc] at h
    cases hbj : B j with
    | true =>
      rw [hbj] at h
      unfold notI at h
      rw [if_pos rfl, Int.add_zero, w64 (by omega) (by omega)] at h
      exact ev_if rfl h
    | false =>
      rw [hbj] at h
      unfold notI at h
      rw [if_neg (by simp)] at h
      exact ev_else (by simp) h
/-- What stands beside a place. -/
def besG (w : Nat) (rows : List (List Bool)) (x y : Int) (j : Nat) : Bool := [atG w rows x (y - 1), atG w rows (x + 1) y, atG w rows x (y + 1), atG w rows (x - 1) y].getD j false
/-- How many sides are open. -/
def openG (w : Nat) (rows : List (List Bool)) (x y : Int) : Int := osAcc (besG w rows x y) 4
theorem mlOpen_ev (w : Nat) (rows : List (List Bool)) (hw : 1 ≤ w ∧ w ≤ 10) (hn : 1 ≤ rows.length ∧ rows.length ≤ 10) (hr : ∀ r ∈ rows, r.length = w) (x y : Int) (hx : 0 ≤ x ∧ x ≤ 1000000) (hy : 0 ≤ y ∧ y ≤ 1000000) :
    Ev (fun k => spec_mlOpen.f k (rows.map rowOf) x y) (openG w rows x y) := by
  refine mlOpen_l0 (rows.map rowOf) x y (besG w rows x y) ?_ 4 0 rfl
  intro j hj
  rw [mlAt_eq w rows hw hn hr]
  match j, hj with
  | 0, _ =>
    show some (atG w rows (wrap64 (x + 0)) (wrap64 (y + -1))) = some (atG w rows x (y - 1))
    rw [w64 (x := x + 0) (by omega) (by omega), w64 (x := y + -1) (by omega) (by omega), Int.add_zero]; rfl
  | 1, _ =>
    show some (atG w rows (wrap64 (x + 1)) (wrap64 (y + 0))) = some (atG w rows (x + 1) y)
    rw [w64 (x := x + 1) (by omega) (by omega), w64 (x := y + 0) (by omega) (by omega), Int.add_zero]
  | 2, _ =>
    show some (atG w rows (wrap64 (x + 0)) (wrap64 (y + 1))) = some (atG w rows x (y + 1))
    rw [w64 (x := x + 0) (by omega) (by omega), w64 (x := y + 1) (by omega) (by omega), Int.add_zero]
  | 3, _ =>
    show some (atG w rows (wrap64 (x + -1)) (wrap64 (y + 0))) = some (atG w rows (x - 1) y)
    rw [w64 (x := x + -1) (by omega) (by omega), w64 (x := y + 0) (by omega) (by omega), Int.add_zero]; rfl
theorem openSides_eq (w : Nat) (rows : List (List Bool)) (hw : 1 ≤ w ∧ w ≤ 10) (hn : 1 ≤ rows.length ∧ rows.length ≤ 10) (hr : ∀ r ∈ rows, r.length = w) (x y : Int) (hx : 0 ≤ x ∧ x ≤ 1000000) (hy : 0 ≤ y ∧ y ≤ 1000000) :
    impl_openSides.f (rows.map rowOf) x y = some (openG w rows x y) := by
  unfold impl_openSides.f
  simp only [has_eq w rows hw hn hr, Option.bind_some]
  rw [w64 (x := y - 1) (by omega) (by omega), w64 (x := x + 1) (by omega) (by omega), w64 (x := y + 1) (by omega) (by omega), w64 (x := x - 1) (by omega) (by omega)]
  rfl

theorem open_both (l : List ByteArray) (hl : l.length ≤ 1048576) (a b : Int) : ∃ q, Ev (fun k => spec_OpenSides.f k l a b) q ∧ impl_OpenSides.f l a b = some q := by
  unfold spec_OpenSides.f impl_OpenSides.f
  rw [isTablet_eq]
  simp only [Option.bind_some]
  have h := mlGood_ev l hl
  cases hg : good l with
  | false =>
    rw [hg] at h
    refine ⟨_, Ev.bind (a := false) ?_ (ev_else (by simp) (Ev.now _)), by simp⟩
    unfold spec_mlSquare.f
    exact Ev.bind h (ev_else (by simp) (Ev.now _))
  | true =>
    rw [hg] at h
    obtain ⟨w, rows, rfl, hw, hn, hr⟩ := good_grid l hg
    have hsq : Ev (fun k => spec_mlSquare.f k (rows.map rowOf) a b) (atG w rows a b) := by
      unfold spec_mlSquare.f
      exact Ev.bind h (ev_if rfl (ev_bind (mlAt_eq w rows hw hn hr a b) (Ev.now _)))
    rw [if_pos rfl, has_eq w rows hw hn hr]
    simp only [Option.bind_some]
    cases ha : atG w rows a b with
    | false =>
      rw [ha] at hsq
      exact ⟨_, Ev.bind hsq (ev_else (by simp) (Ev.now _)), by simp⟩
    | true =>
      rw [ha] at hsq
      obtain ⟨i, j, rfl, rfl, hj, hi⟩ := atG_in w rows a b ha
      refine ⟨_, Ev.bind hsq (ev_if rfl (Ev.bind (mlOpen_ev w rows hw hn hr _ _ (by omega) (by omega)) (Ev.now _))), ?_⟩
      rw [if_pos rfl, openSides_eq w rows hw hn hr _ _ (by omega) (by omega)]
      rfl
theorem FnExactOpenSides : laws_FnExactOpenSides.Pure := by
  intro l a b h1 _ h3 _ _
  apply Ev.rounds (r := true)
  unfold laws_FnExactOpenSides.f
  obtain ⟨r, hr, hr2⟩ := szS_ev l h1 h3
  refine Ev.bind hr ?_
  by_cases c : r < 0
  · exact ev_if c (Ev.now _)
  have hl := hr2 c
  obtain ⟨q, hs, hi⟩ := open_both l hl a b
  refine ev_else c (Ev.bind (toS_ev l hl) (Ev.bind hs (Ev.bind (toS_ev l hl) (ev_bind hi (ev_if rfl ?_)))))
  refine Ev.step (fun k => rfl) ?_
  simp only [laws_FnExactOpenSides.j0]
  exact ev_else (by simp) (Ev.bind (toS_ev l hl) (Ev.bind (eqStringS_self l hl) (ev_if rfl (Ev.now _))))

end Go.Proofs.YtghfhcmjnpjgdaaDoor.Pure
