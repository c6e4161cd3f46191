/- For all arguments the program's LeftOnTablet returns what the reference's LeftOnTablet returns. Condition: the package variables unicode/utf8.first and unicode/utf8.acceptRanges hold what the library's text lays. -/
import Derived.Test.YtnbmpdpcbndooaaDoorP5
namespace Go.Proofs.YtnbmpdpcbndooaaDoor.Pure
open Go.RowKit Go.Proofs.YtnbmpdpcbndooaaDoor.P Go.Proofs.YtnbmpdpcbndooaaDoorW.PrintWords Go.Proofs.YtnbmpdpcbndooaaDoorW.PrintLast
set_option linter.unusedVariables false
set_option linter.unusedSimpArgs false

theorem w64 {x : Int} (h0 : -9223372036854775808 ≤ x) (h1 : x ≤ 9223372036854775807) : wrap64 x = x := by
  unfold wrap64
  omega
theorem wf_i64 {x : Int} (h : (Lit.int .i64 x).wf = true) : -9223372036854775808 ≤ x ∧ x ≤ 9223372036854775807 := by
  have hmin : IntKind.i64.min = -9223372036854775808 := rfl
  have hmax : IntKind.i64.max = 9223372036854775807 := rfl
  simp only [Lit.wf, Bool.and_eq_true, decide_eq_true_eq] at h
  omega

theorem two {α β : Type} {g : Nat → Option α} {f : Nat → Option β} {a : α} {b : β} (h : Ev g a) (h' : Ev f b) : ∃ k, g k = some a ∧ f k = some b := by
  obtain ⟨K, h⟩ := h
  obtain ⟨K', h'⟩ := h'
  exact ⟨max K K', h _ (by omega), h' _ (by omega)⟩
theorem str_app (xs ys : List Int) : strOfNums (xs ++ ys) = strOfNums xs ++ strOfNums ys := by
  apply ByteArray.ext
  simp [strOfNums]
theorem str_nil : strOfNums [] = (⟨#[]⟩ : ByteArray) := rfl
theorem str_size (xs : List Int) : (strOfNums xs).size = xs.length := by simp [strOfNums, ByteArray.size]
theorem ba_nil_app (b : ByteArray) : (⟨#[]⟩ : ByteArray) ++ b = b := by
  apply ByteArray.ext
  simp
theorem ba_app_nil (b : ByteArray) : b ++ (⟨#[]⟩ : ByteArray) = b := by
  apply ByteArray.ext
  simp
theorem ba_assoc (a b c : ByteArray) : a ++ b ++ c = a ++ (b ++ c) := by
  apply ByteArray.ext
  simp
theorem ev_if {α : Type} {c : Prop} [Decidable c] {g f : Nat → Option α} {r : α} (hc : c) (h : Ev g r) : Ev (fun k => if c then g k else f k) r :=
  Ev.congr (fun k => if_pos hc) h
theorem ev_else {α : Type} {c : Prop} [Decidable c] {g f : Nat → Option α} {r : α} (hc : ¬ c) (h : Ev f r) : Ev (fun k => if c then g k else f k) r :=
  Ev.congr (fun k => if_neg hc) h
theorem ev_bind {α β : Type} {a : α} {o : Option α} {f : Nat → α → Option β} {r : β} (h : o = some a) (k : Ev (fun n => f n a) r) : Ev (fun n => o.bind (f n)) r :=
  Ev.congr (fun n => by rw [h]; rfl) k

theorem l1In_eq (a b c : Int) : spec_l1In.f a b c = some (decide (b ≤ a ∧ a ≤ c)) := by
  unfold spec_l1In.f
  by_cases h : b ≤ a
  · rw [if_pos (show a ≥ b from h)]; simp [h]
  · rw [if_neg (show ¬ a ≥ b from h)]; simp [h]
theorem within_eq (a b c : Int) : impl_within.f a b c = some (decide (b ≤ a ∧ a ≤ c)) := by
  unfold impl_within.f
  by_cases h : b ≤ a
  · rw [if_pos h]; simp [h]
  · rw [if_neg h]; simp [h]
theorem within_l1In (a b c : Int) : impl_within.f a b c = spec_l1In.f a b c := by rw [within_eq, l1In_eq]

/-! ### Texts -/
theorem w64s {j : Nat} (h : j < 9223372036854775807) : wrap64 ((j : Int) + 1) = ((j + 1 : Nat) : Int) := by
  rw [w64 (by omega) (by omega)]; omega
theorem rdOf_nat {α : Type} (d : α) (xs : List α) (j : Nat) (h : j < xs.length) : rdOf d xs (j : Int) = xs[j] := by
  simp [rdOf, List.getD_eq_getElem?_getD, List.getElem?_eq_getElem h]
theorem eqStringS_l0 (xs : List ByteArray) (hx : xs.length ≤ 1048576) (d : Nat) : ∀ j : Nat, j + d = xs.length → Ev (fun k => laws_eqStringS.l0 k xs xs (j : Int)) true := by
  induction d with
  | zero =>
    intro j hj
    refine Ev.step (fun k => rfl) ?_
    simp only [laws_eqStringS.l0]
    exact ev_else (by omega) (Ev.now _)
  | succ d ih =>
    intro j hj
    refine Ev.step (fun k => rfl) ?_
    simp only [laws_eqStringS.l0]
    refine ev_if (by omega) (ev_if (by omega) (ev_if (by omega) (ev_if ?_ ?_)))
    · first | rfl | trivial
    rw [w64s (by omega)]
    exact ih (j + 1) (by omega)
theorem eqStringS_self (xs : List ByteArray) (hx : xs.length ≤ 1048576) : Ev (fun k => laws_eqStringS.f k xs xs) true := by
  unfold laws_eqStringS.f
  exact ev_if rfl (eqStringS_l0 xs hx xs.length 0 (by omega))

/-! ### Bytes of a text -/
theorem sz_list (s : ByteArray) : s.data.toList.length = s.size := by rw [Array.length_toList]; rfl
theorem bt_list (s : ByteArray) (j : Nat) (h : j < s.data.toList.length) : bt s (j : Int) = ((s.data.toList[j]'h).toNat : Int) := by
  rw [sz_list] at h
  unfold bt
  rw [dif_pos (by rw [Int.toNat_natCast]; exact h)]
  simp only [Int.toNat_natCast]
  rfl
theorem u8_eq (b : UInt8) (n : Nat) (c : UInt8) (hc : c.toNat = n) : ((b.toNat : Int) = (n : Int)) ↔ b = c := by
  constructor
  · intro h
    apply UInt8.toNat_inj.mp
    omega
  · rintro rfl
    rw [hc]
theorem dw_nil {α : Type} (p : α → Bool) (l : List α) : l.all p = true → l.dropWhile p = [] := by
  induction l with
  | nil => intro _; rfl
  | cons a l ih =>
    intro h
    rw [List.all_cons, Bool.and_eq_true] at h
    rw [List.dropWhile_cons, if_pos h.1]
    exact ih h.2
theorem dw_all {α : Type} (p : α → Bool) (l : List α) : (l.dropWhile p).all p = true → l.all p = true := by
  induction l with
  | nil => intro _; rfl
  | cons a l ih =>
    intro h
    rw [List.dropWhile_cons] at h
    by_cases c : p a = true
    · rw [if_pos c] at h
      rw [List.all_cons, c, ih h]; rfl
    · rw [if_neg c] at h
      exact h
theorem trimS_all (l cs : List UInt8) : (Lib.trimS l cs == []) = l.all (cs.contains ·) := by
  cases h : l.all (cs.contains ·) with
  | true =>
    have hr : l.reverse.all (cs.contains ·) = true := by rw [List.all_reverse]; exact h
    have e : Lib.trimRightS l cs = [] := by
      unfold Lib.trimRightS
      rw [dw_nil _ _ hr]; rfl
    unfold Lib.trimS
    rw [e]
    rfl
  | false =>
    rw [beq_eq_false_iff_ne]
    intro e
    have h1 : (Lib.trimRightS l cs).all (cs.contains ·) = true := by
      refine dw_all _ _ ?_
      have e' : List.dropWhile (cs.contains ·) (Lib.trimRightS l cs) = [] := e
      rw [e']
      rfl
    have h2 : (l.reverse.dropWhile (cs.contains ·)).all (cs.contains ·) = true := by
      have h3 := h1
      unfold Lib.trimRightS at h3
      rw [List.all_reverse] at h3
      exact h3
    have h4 := dw_all _ _ h2
    rw [List.all_reverse, h] at h4
    cases h4

/-! ### Arguments: lists of texts -/
theorem szS_l0 (xs : List ByteArray) (hx : xs.length ≤ 1048576) (hs : ∀ x ∈ xs, x.size ≤ 9223372036854775807) (d : Nat) : ∀ (j : Nat) (left : Int), j + d = xs.length → 0 ≤ left → left ≤ 1048576 → ∃ r, Ev (fun k => laws_szStringS.l0 k xs left (j : Int)) r := by
  induction d with
  | zero =>
    intro j left hj h0 h1
    refine ⟨left, Ev.step (fun k => rfl) ?_⟩
    simp only [laws_szStringS.l0]
    exact ev_else (by omega) (Ev.now _)
  | succ d ih =>
    intro j left hj h0 h1
    have hl : j < xs.length := by omega
    have hb := hs _ (List.getElem_mem hl)
    have e : wrap64 (left - (xs[j].size : Int)) = left - (xs[j].size : Int) := w64 (by omega) (by omega)
    by_cases c : left - (xs[j].size : Int) < 0
    · refine ⟨-1, Ev.step (fun k => rfl) ?_⟩
      simp only [laws_szStringS.l0]
      rw [rdOf_nat _ _ j hl, e]
      exact ev_if (by omega) (ev_if (by omega) (ev_if c (Ev.now _)))
    · obtain ⟨r, hr⟩ := ih (j + 1) (left - (xs[j].size : Int)) (by omega) (by omega) (by omega)
      refine ⟨r, Ev.step (fun k => rfl) ?_⟩
      simp only [laws_szStringS.l0]
      rw [rdOf_nat _ _ j hl, e, w64s (by omega)]
      exact ev_if (by omega) (ev_if (by omega) (ev_else c hr))
theorem szS_ev (xs : List ByteArray) (h1 : xs.length ≤ 9223372036854775807) (hs : ∀ x ∈ xs, x.size ≤ 9223372036854775807) : ∃ r, Ev (fun k => laws_szStringS.f k xs 1048576) r ∧ (¬ r < 0 → xs.length ≤ 1048576) := by
  unfold laws_szStringS.f
  have e : wrap64 (1048576 - (xs.length : Int)) = 1048576 - (xs.length : Int) := w64 (by omega) (by omega)
  rw [e]
  by_cases c : 1048576 - (xs.length : Int) < 0
  · exact ⟨-1, ev_if c (Ev.now _), fun h => absurd (show (-1 : Int) < 0 by omega) h⟩
  · obtain ⟨r, hr⟩ := szS_l0 xs (by omega) hs xs.length 0 (1048576 - (xs.length : Int)) (by omega) (by omega) (by omega)
    exact ⟨r, ev_else c hr, fun _ => by omega⟩
theorem toS_l0 (xs : List ByteArray) (hx : xs.length ≤ 1048576) (d : Nat) : ∀ j : Nat, j + d = xs.length → Ev (fun k => laws_toStringS.l0 k xs (xs.take j ++ List.replicate d (⟨#[]⟩ : ByteArray)) (j : Int)) xs := by
  induction d with
  | zero =>
    intro j hj
    refine Ev.step (fun k => rfl) ?_
    simp only [laws_toStringS.l0]
    rw [List.take_of_length_le (by omega), List.replicate_zero, List.append_nil]
    exact ev_else (by omega) (Ev.now _)
  | succ d ih =>
    intro j hj
    have hl : j < xs.length := by omega
    have ht : (xs.take j).length = j := by rw [List.length_take]; omega
    have e : (xs.take j ++ List.replicate (d + 1) (⟨#[]⟩ : ByteArray)).set j xs[j] = xs.take (j + 1) ++ List.replicate d (⟨#[]⟩ : ByteArray) := by
      rw [List.set_append, if_neg (by omega), ht, Nat.sub_self, List.replicate_succ, List.set_cons_zero, List.take_succ_eq_append_getElem hl, List.append_assoc]
      rfl
    refine Ev.step (fun k => rfl) ?_
    simp only [laws_toStringS.l0]
    rw [rdOf_nat _ _ j hl, Int.toNat_natCast, e, w64s (by omega)]
    exact ev_if (by omega) (ev_if (by omega) (ev_if (by rw [List.length_append, List.length_replicate, ht]; omega) (ih (j + 1) (by omega))))
theorem toS_ev (xs : List ByteArray) (hx : xs.length ≤ 1048576) : Ev (fun k => laws_toStringS.f k xs) xs := by
  unfold laws_toStringS.f
  rw [Int.toNat_natCast]
  exact ev_if (by omega) (ev_if (by omega) (toS_l0 xs hx xs.length 0 (by omega)))

/-! ### Tablets -/
def okSq (b : UInt8) : Bool := b == 35 || b == 46
def okRow (n : Nat) (r : ByteArray) : Bool := decide (r.size = n) && r.data.toList.all okSq
def good (l : List ByteArray) : Bool :=
  decide (1 ≤ (l.length : Int) ∧ (l.length : Int) ≤ 10) && (decide (1 ≤ ((rdOf ByteArray.empty l 0).size : Int) ∧ ((rdOf ByteArray.empty l 0).size : Int) ≤ 10) && l.all (okRow (rdOf ByteArray.empty l 0).size))
theorem mlGood_l1 (l : List ByteArray) (r : ByteArray) (hr : r.size ≤ 1048576) (i : Int) (n : Nat) (b : Bool) (hE : Ev (fun k => spec_mlGood.l0 k l l (n : Int) (wrap64 (i + 1))) b) (d : Nat) :
    ∀ j : Nat, j + d = r.size → Ev (fun k => spec_mlGood.l1 k l r (j : Int) l (n : Int) i) ((r.data.toList.drop j).all okSq && b) := by
  have hl := sz_list r
  induction d with
  | zero =>
    intro j hj
    refine Ev.step (fun k => rfl) ?_
    simp only [spec_mlGood.l1]
    rw [List.drop_of_length_le (by omega)]
    exact ev_else (by omega) hE
  | succ d ih =>
    intro j hj
    have hj' : j < r.data.toList.length := by omega
    rw [List.drop_eq_getElem_cons hj', List.all_cons]
    refine Ev.step (fun k => rfl) ?_
    simp only [spec_mlGood.l1]
    rw [bt_list r j hj', w64s (by omega)]
    have h1 := u8_eq (r.data.toList[j]) 35 35 rfl
    have h2 := u8_eq (r.data.toList[j]) 46 46 rfl
    refine ev_if (by omega) (ev_if (by omega) ?_)
    by_cases c1 : r.data.toList[j] = 35
    · have e : okSq r.data.toList[j] = true := by rw [c1]; rfl
      rw [e, Bool.true_and]
      exact ev_if (h1.mpr c1) (ih (j + 1) (by omega))
    · by_cases c2 : r.data.toList[j] = 46
      · have e : okSq r.data.toList[j] = true := by rw [c2]; rfl
        rw [e, Bool.true_and]
        exact ev_else (fun h => c1 (h1.mp h)) (ev_if (h2.mpr c2) (ih (j + 1) (by omega)))
      · have e : okSq r.data.toList[j] = false := by unfold okSq; rw [beq_false_of_ne c1, beq_false_of_ne c2]; rfl
        rw [e, Bool.false_and, Bool.false_and]
        exact ev_else (fun h => c1 (h1.mp h)) (ev_else (fun h => c2 (h2.mp h)) (Ev.now _))
theorem mlGood_l0 (l : List ByteArray) (hx : l.length ≤ 1048576) (hn : (rdOf ByteArray.empty l 0).size ≤ 1048576) (d : Nat) :
    ∀ j : Nat, j + d = l.length → Ev (fun k => spec_mlGood.l0 k l l (l.length : Int) (j : Int)) ((l.drop j).all (okRow (rdOf ByteArray.empty l 0).size)) := by
  induction d with
  | zero =>
    intro j hj
    refine Ev.step (fun k => rfl) ?_
    simp only [spec_mlGood.l0]
    rw [List.drop_of_length_le (by omega)]
    exact ev_else (by omega) (Ev.now _)
  | succ d ih =>
    intro j hj
    have hl : j < l.length := by omega
    have hE := ih (j + 1) (by omega)
    rw [List.drop_eq_getElem_cons hl, List.all_cons]
    refine Ev.step (fun k => rfl) ?_
    simp only [spec_mlGood.l0]
    rw [rdOf_nat _ _ j hl]
    refine ev_if (by omega) (ev_if (by omega) (ev_if (by omega) (ev_if (by omega) ?_)))
    by_cases c : l[j].size = (rdOf ByteArray.empty l 0).size
    · refine ev_if (by omega) ?_
      have h := mlGood_l1 l l[j] (by omega) (j : Int) l.length _ (by rw [w64s (by omega)]; exact hE) l[j].size 0 (by omega)
      rw [List.drop_zero] at h
      unfold okRow at h ⊢
      rw [decide_eq_true c, Bool.true_and]
      exact h
    · refine ev_else (by omega) ?_
      rw [show okRow (rdOf ByteArray.empty l 0).size l[j] = false by unfold okRow; rw [decide_eq_false c]; rfl, Bool.false_and]
      exact Ev.now _
theorem mlGood_ev (l : List ByteArray) (hx : l.length ≤ 1048576) : Ev (fun k => spec_mlGood.f k l) (good l) := by
  unfold spec_mlGood.f good
  simp only [l1In_eq, Option.bind_some]
  by_cases c : 1 ≤ (l.length : Int) ∧ (l.length : Int) ≤ 10
  · refine ev_if (by simpa using c) (ev_if (by omega) ?_)
    rw [decide_eq_true c, Bool.true_and]
    refine Ev.step (fun k => rfl) ?_
    simp only [spec_mlGood.j0]
    by_cases c2 : 1 ≤ ((rdOf ByteArray.empty l 0).size : Int) ∧ ((rdOf ByteArray.empty l 0).size : Int) ≤ 10
    · rw [decide_eq_true c2, Bool.true_and]
      exact ev_else (by simp) (mlGood_l0 l hx (by omega) l.length 0 (by omega))
    · rw [decide_eq_false c2, Bool.false_and]
      exact ev_if rfl (Ev.now _)
  · refine ev_else (by simpa using c) ?_
    rw [decide_eq_false c, Bool.false_and]
    refine Ev.step (fun k => rfl) ?_
    simp only [spec_mlGood.j0]
    exact ev_if (by first | rfl | trivial) (Ev.now _)
theorem badRow_eq (n : Nat) (h : 1 ≤ (n : Int) ∧ (n : Int) ≤ 10) (x : ByteArray) : badRow n 10 (⟨#[35, 46]⟩ : ByteArray) x = !okRow n x := by
  unfold badRow okRow
  by_cases c : x.size = n
  · rw [decide_eq_true c, decide_eq_true (show 1 ≤ (x.size : Int) ∧ (x.size : Int) ≤ 10 by omega), ByteArray.toList_eq]
    show (!(Lib.trimS x.data.toList [35, 46]).isEmpty) = !(x.data.toList.all okSq)
    rw [show (Lib.trimS x.data.toList [35, 46]).isEmpty = (Lib.trimS x.data.toList [35, 46] == []) by cases Lib.trimS x.data.toList [35, 46] <;> rfl, trimS_all]
    congr 2
    funext b
    unfold okSq
    rw [List.contains_cons, List.contains_cons, List.contains_nil, Bool.or_false]
  · rw [decide_eq_false c]; rfl
theorem areRows_eq (l : List ByteArray) : impl_areRows.f l 10 (⟨#[35, 46]⟩ : ByteArray) = some (good l) := by
  unfold impl_areRows.f good
  rw [if_pos ⟨by omega, by decide, by decide⟩]
  congr 1
  by_cases c : 1 ≤ (l.length : Int) ∧ (l.length : Int) ≤ 10
  · congr 1
    by_cases c2 : 1 ≤ ((rdOf ByteArray.empty l 0).size : Int) ∧ ((rdOf ByteArray.empty l 0).size : Int) ≤ 10
    · rw [decide_eq_true c2, Bool.true_and, List.any_eq_not_all_not, Bool.not_not]
      congr 1
      funext x
      rw [badRow_eq _ c2, Bool.not_not]
    · rw [decide_eq_false c2, Bool.false_and]
      have h0 : 0 < l.length := by omega
      have e : rdOf ByteArray.empty l 0 = l[0] := rdOf_nat _ l 0 h0
      have : l.any (badRow (rdOf ByteArray.empty l 0).size 10 (⟨#[35, 46]⟩ : ByteArray)) = true := by
        rw [List.any_eq_true]
        refine ⟨l[0], List.getElem_mem h0, ?_⟩
        rw [← e]
        unfold badRow
        rw [decide_eq_false c2]
        simp
      rw [this]; rfl
  · rw [decide_eq_false c, Bool.false_and, Bool.false_and]
theorem isTablet_eq (l : List ByteArray) : impl_IsTablet.f l = some (good l) := by
  unfold impl_IsTablet.f
  rw [areRows_eq]; rfl

/-! ### Tablets -/
def sqb (b : Bool) : UInt8 := if b then 35 else 46
/-- A row's text. -/
def rowOf (r : List Bool) : ByteArray := ⟨(r.map sqb).toArray⟩
theorem rowOf_size (r : List Bool) : (rowOf r).size = r.length := by simp [rowOf, ByteArray.size]
theorem rowOf_snoc (r : List Bool) (b : Bool) : rowOf (r ++ [b]) = rowOf r ++ (⟨#[sqb b]⟩ : ByteArray) := by
  apply ByteArray.ext
  simp [rowOf]
theorem flat_len (w : Nat) (rows : List (List Bool)) (h : ∀ r ∈ rows, r.length = w) : rows.flatten.length = w * rows.length := by
  induction rows with
  | nil => simp
  | cons r rows ih =>
    rw [List.flatten_cons, List.length_append, List.length_cons, ih (fun s hs => h s (List.mem_cons_of_mem _ hs)), h r (by simp), Nat.mul_succ]
    omega
theorem flat_slice (w : Nat) (rows : List (List Bool)) (h : ∀ r ∈ rows, r.length = w) (j : Nat) (hj : j < rows.length) : (rows.flatten.take (w * j + w)).drop (w * j) = rows[j] := by
  have e : rows = rows.take j ++ rows[j] :: rows.drop (j + 1) := by
    rw [← List.drop_eq_getElem_cons hj, List.take_append_drop]
  have h1 : (rows.take j).flatten.length = w * j := by
    rw [flat_len w _ (fun r hr => h r (List.mem_of_mem_take hr)), List.length_take, Nat.min_eq_left (by omega)]
  have h2 : rows[j].length = w := h _ (List.getElem_mem hj)
  have e2 : rows.flatten = (rows.take j).flatten ++ (rows[j] ++ (rows.drop (j + 1)).flatten) := by
    conv => lhs; rw [e]
    rw [List.flatten_append, List.flatten_cons]
  rw [e2, List.take_append, h1, List.take_of_length_le (l := (rows.take j).flatten) (by rw [h1]; omega), show w * j + w - w * j = w by omega, List.take_append, List.take_of_length_le (l := rows[j]) (by omega), h2, Nat.sub_self, List.take_zero, List.append_nil]
  rw [← h1, List.drop_left]

/-! ### Tablets as rows of squares -/
theorem sqb_is (b : UInt8) (h : okSq b = true) : sqb (b == 35) = b := by
  unfold okSq at h
  by_cases c : b = 35
  · subst c; rfl
  · rw [beq_false_of_ne c, Bool.false_or, beq_iff_eq] at h
    subst h; rfl
def gridOf (l : List ByteArray) : List (List Bool) := l.map fun r => r.data.toList.map (· == 35)
theorem rowOf_grid (r : ByteArray) (h : r.data.toList.all okSq = true) : rowOf (r.data.toList.map (· == 35)) = r := by
  apply ByteArray.ext
  show ((r.data.toList.map (· == 35)).map sqb).toArray = r.data
  rw [List.map_map, (List.map_congr_left (fun b hb => sqb_is b (List.all_eq_true.1 h b hb)) : r.data.toList.map (sqb ∘ (· == 35)) = r.data.toList.map id), List.map_id]
theorem good_grid (l : List ByteArray) (h : good l = true) : ∃ (w : Nat) (rows : List (List Bool)), l = rows.map rowOf ∧ (1 ≤ w ∧ w ≤ 10) ∧ (1 ≤ rows.length ∧ rows.length ≤ 10) ∧ ∀ r ∈ rows, r.length = w := by
  unfold good at h
  simp only [Bool.and_eq_true, decide_eq_true_eq, List.all_eq_true] at h
  obtain ⟨⟨h1, h2⟩, ⟨h3, h4⟩, h5⟩ := h
  have h6 : ∀ r ∈ l, r.size = (rdOf ByteArray.empty l 0).size ∧ r.data.toList.all okSq = true := by
    intro r hr
    have := h5 r hr
    unfold okRow at this
    rw [Bool.and_eq_true] at this
    exact ⟨of_decide_eq_true this.1, this.2⟩
  refine ⟨(rdOf ByteArray.empty l 0).size, gridOf l, ?_, by omega, by unfold gridOf; rw [List.length_map]; omega, ?_⟩
  · unfold gridOf
    rw [List.map_map]
    exact ((List.map_congr_left (fun r hr => rowOf_grid r (h6 r hr).2) : l.map (rowOf ∘ fun r => r.data.toList.map (· == 35)) = l.map id).trans (List.map_id _)).symm
  · intro r hr
    unfold gridOf at hr
    obtain ⟨s, hs, rfl⟩ := List.mem_map.1 hr
    rw [List.length_map, sz_list]
    exact (h6 s hs).1
theorem rowOf_list (r : List Bool) : (rowOf r).data.toList = r.map sqb := by simp [rowOf]
theorem bt_row (r : List Bool) (i : Nat) (h : i < r.length) : (bt (rowOf r) (i : Int) == 35) = r[i] := by
  have h' : i < (rowOf r).data.toList.length := by rw [rowOf_list, List.length_map]; exact h
  have e : (rowOf r).data.toList[i] = sqb r[i] := by simp [rowOf_list]
  rw [bt_list (rowOf r) i h', e]
  cases r[i] <;> rfl
theorem rd_row (rows : List (List Bool)) (j : Nat) (h : j < rows.length) : rdOf ByteArray.empty (rows.map rowOf) (j : Int) = rowOf rows[j] := by
  rw [rdOf_nat _ _ j (by rw [List.length_map]; exact h), List.getElem_map]
theorem rd_row0 (w : Nat) (rows : List (List Bool)) (h : 1 ≤ rows.length) (hr : ∀ r ∈ rows, r.length = w) : (rdOf ByteArray.empty (rows.map rowOf) 0).size = w := by
  have e : rdOf ByteArray.empty (rows.map rowOf) 0 = rowOf rows[0] := rd_row rows 0 h
  rw [e, rowOf_size]
  exact hr _ (List.getElem_mem h)
/-- Is there a square at a place? -/
def atG (w : Nat) (rows : List (List Bool)) (x y : Int) : Bool :=
  if (0 ≤ y ∧ y ≤ (rows.length : Int) - 1) ∧ (0 ≤ x ∧ x ≤ (w : Int) - 1) then (rows.getD y.toNat []).getD x.toNat false else false
theorem atG_nat (w : Nat) (rows : List (List Bool)) (hr : ∀ r ∈ rows, r.length = w) (x y : Nat) (hy : y < rows.length) (hx : x < rows[y].length) : atG w rows (x : Int) (y : Int) = rows[y][x] := by
  have hw := hr _ (List.getElem_mem hy)
  unfold atG
  rw [if_pos ⟨by omega, by omega⟩, Int.toNat_natCast, Int.toNat_natCast]
  simp [List.getD_eq_getElem?_getD, List.getElem?_eq_getElem hy, List.getElem?_eq_getElem hx]
theorem flat_le (w : Nat) (rows : List (List Bool)) (hw : 1 ≤ w ∧ w ≤ 10) (hn : 1 ≤ rows.length ∧ rows.length ≤ 10) (hr : ∀ r ∈ rows, r.length = w) : rows.flatten.length ≤ 100 := by
  rw [flat_len w rows hr]
  exact Nat.mul_le_mul hw.2 hn.2

theorem mlIs_l1 (xs : List ByteArray) (r : List Bool) (hr : r.length ≤ 1000) (n j : Int) (acc : List Bool) (ha : acc.length ≤ 1000000) (R : List Bool) (hE : Ev (fun k => spec_mlIs.l0 k (acc ++ r) xs n (wrap64 (j + 1))) R) (d : Nat) :
    ∀ i : Nat, i + d = r.length → Ev (fun k => spec_mlIs.l1 k (acc ++ r.take i) (rowOf r) (i : Int) xs n j) R := by
  have hs := rowOf_size r
  induction d with
  | zero =>
    intro i hi
    refine Ev.step (fun k => rfl) ?_
    simp only [spec_mlIs.l1]
    rw [List.take_of_length_le (by omega)]
    exact ev_else (by omega) hE
  | succ d ih =>
    intro i hi
    have hl : i < r.length := by omega
    have h := ih (i + 1) (by omega)
    rw [List.take_succ_eq_append_getElem hl, ← List.append_assoc] at h
    refine Ev.step (fun k => rfl) ?_
    simp only [spec_mlIs.l1]
    rw [bt_row r i hl, w64s (by omega)]
    exact ev_if (by omega) (ev_if (by omega) (ev_if (by rw [List.length_append, List.length_take]; omega) h))
theorem mlIs_l0 (rows : List (List Bool)) (hn : rows.length ≤ 1000) (hr : ∀ r ∈ rows, r.length ≤ 1000) (hf : rows.flatten.length ≤ 1000000) (d : Nat) :
    ∀ j : Nat, j + d = rows.length → Ev (fun k => spec_mlIs.l0 k (rows.take j).flatten (rows.map rowOf) (rows.length : Int) (j : Int)) rows.flatten := by
  induction d with
  | zero =>
    intro j hj
    refine Ev.step (fun k => rfl) ?_
    simp only [spec_mlIs.l0]
    rw [List.take_of_length_le (by omega)]
    exact ev_else (by omega) (Ev.now _)
  | succ d ih =>
    intro j hj
    have hl : j < rows.length := by omega
    have h := ih (j + 1) (by omega)
    rw [List.take_succ_eq_append_getElem hl, List.flatten_append, List.flatten_cons, List.flatten_nil, List.append_nil] at h
    have hb : (rows.take j).flatten.length ≤ 1000000 := by
      have e : rows.flatten.length = (rows.take j).flatten.length + (rows.drop j).flatten.length := by
        rw [← List.length_append, ← List.flatten_append, List.take_append_drop]
      omega
    refine Ev.step (fun k => rfl) ?_
    simp only [spec_mlIs.l0]
    rw [rd_row rows j hl]
    have h2 := mlIs_l1 (rows.map rowOf) rows[j] (hr _ (List.getElem_mem hl)) (rows.length : Int) (j : Int) (rows.take j).flatten hb _ (by rw [w64s (by omega)]; exact h) rows[j].length 0 (by omega)
    rw [List.take_zero, List.append_nil] at h2
    exact ev_if (by omega) (ev_if (by omega) (ev_if (by rw [List.length_map]; omega) h2))
theorem mlIs_ev (w : Nat) (rows : List (List Bool)) (hw : 1 ≤ w ∧ w ≤ 10) (hn : 1 ≤ rows.length ∧ rows.length ≤ 10) (hr : ∀ r ∈ rows, r.length = w) : Ev (fun k => spec_mlIs.f k (rows.map rowOf)) rows.flatten := by
  have hf := flat_le w rows hw hn hr
  unfold spec_mlIs.f
  rw [List.length_map]
  exact mlIs_l0 rows (by omega) (fun r h => by rw [hr r h]; omega) (by omega) rows.length 0 (by omega)

def IsG (w : Nat) (g : List (List Bool)) : Prop := (1 ≤ w ∧ w ≤ 10) ∧ (1 ≤ g.length ∧ g.length ≤ 10) ∧ ∀ r ∈ g, r.length = w
/-- How many squares there are. -/
def cntG (g : List (List Bool)) : Nat := g.flatten.count true

/-! ### How many squares there are -/
theorem mlLeft_l0 (bs : List Bool) (hb : bs.length ≤ 1000000) (d : Nat) : ∀ j : Nat, j + d = bs.length → Ev (fun k => spec_mlLeft.l0 k (((bs.take j).count true : Nat) : Int) bs (bs.length : Int) (j : Int)) ((bs.count true : Nat) : Int) := by
  induction d with
  | zero =>
    intro j hj
    refine Ev.step (fun k => rfl) ?_
    simp only [spec_mlLeft.l0]
    rw [List.take_of_length_le (by omega)]
    exact ev_else (by omega) (Ev.now _)
  | succ d ih =>
    intro j hj
    have hl : j < bs.length := by omega
    have h := ih (j + 1) (by omega)
    have hc : (bs.take j).count true ≤ (bs.take j).length := List.count_le_length
    rw [List.length_take] at hc
    rw [List.take_succ_eq_append_getElem hl, List.count_append] at h
    refine Ev.step (fun k => rfl) ?_
    simp only [spec_mlLeft.l0]
    rw [rdOf_nat _ _ j hl, w64s (j := j) (by omega)]
    refine ev_if (by omega) (ev_if (by omega) (ev_if (by omega) ?_))
    cases hbj : bs[j] with
    | true =>
      rw [hbj] at h
      rw [w64s (j := (bs.take j).count true) (by omega)]
      exact ev_if rfl h
    | false =>
      rw [hbj, show [false].count true = 0 from rfl, Nat.add_zero] at h
      exact ev_else (by simp) h
theorem mlLeft_ev (w : Nat) (g : List (List Bool)) (h : IsG w g) : Ev (fun k => spec_mlLeft.f k (g.map rowOf)) ((cntG g : Nat) : Int) := by
  have hf := flat_le w g h.1 h.2.1 h.2.2
  unfold spec_mlLeft.f
  refine Ev.bind (mlIs_ev w g h.1 h.2.1 h.2.2) ?_
  exact mlLeft_l0 g.flatten (by omega) g.flatten.length 0 (by omega)
theorem join_nil (xs : List (List UInt8)) : Lib.join xs [] = xs.flatten := by
  unfold Lib.join
  induction xs with
  | nil => rfl
  | cons x r ih =>
    cases r with
    | nil => simp [List.intercalate]
    | cons y r =>
      have : List.intercalate [] (x :: y :: r) = x ++ List.intercalate [] (y :: r) := by simp [List.intercalate, List.intersperse]
      rw [this, ih]; rfl
theorem flat_map_sqb (g : List (List Bool)) : ((g.map rowOf).map (·.data.toList)).flatten = g.flatten.map sqb := by
  induction g with
  | nil => rfl
  | cons r g ih =>
    rw [List.map_cons, List.map_cons, List.flatten_cons, ih, List.flatten_cons, List.map_append, rowOf_list]
theorem count_sqb (bs : List Bool) : (bs.map sqb).count 35 = bs.count true := by
  induction bs with
  | nil => rfl
  | cons b bs ih => rw [List.map_cons, List.count_cons, List.count_cons, ih]; cases b <;> rfl

theorem left_eq (w : Nat) (g : List (List Bool)) (h : IsG w g) : impl_left.f (g.map rowOf) = some ((cntG g : Nat) : Int) := by
  have hf := flat_le w g h.1 h.2.1 h.2.2
  unfold impl_left.f strings_Join.f
  rw [show (⟨#[]⟩ : ByteArray).data.toList = [] from rfl, join_nil, flat_map_sqb, if_pos ⟨by rw [List.length_map]; have := h.2.1; omega, by rw [List.length_map]; omega⟩]
  simp only [Option.bind_some]
  unfold strings_Count.f
  rw [if_pos (show (⟨#[35]⟩ : ByteArray).size = 1 from rfl)]
  show some (((g.flatten.map sqb).count 35 : Nat) : Int) = _
  rw [count_sqb]; rfl
theorem left_both (l : List ByteArray) (hl : l.length ≤ 1048576) : ∃ q, Ev (fun k => spec_LeftOnTablet.f k l) q ∧ impl_LeftOnTablet.f l = some q := by
  unfold spec_LeftOnTablet.f impl_LeftOnTablet.f
  rw [isTablet_eq]
  simp only [Option.bind_some]
  have h := mlGood_ev l hl
  cases hg : good l with
  | false =>
    rw [hg] at h
    exact ⟨_, Ev.bind h (ev_else (by simp) (Ev.now _)), by simp⟩
  | true =>
    rw [hg] at h
    obtain ⟨w, rows, rfl, hw, hn, hr⟩ := good_grid l hg
    refine ⟨_, Ev.bind h (ev_if rfl (Ev.bind (mlLeft_ev w rows ⟨hw, hn, hr⟩) (Ev.now _))), ?_⟩
    rw [if_pos rfl, left_eq w rows ⟨hw, hn, hr⟩]
    rfl
theorem FnExactLeftOnTablet : laws_FnExactLeftOnTablet.Pure := by
  intro l h1 _ h3
  apply Ev.rounds (r := true)
  unfold laws_FnExactLeftOnTablet.f
  obtain ⟨r, hr, hr2⟩ := szS_ev l h1 h3
  refine Ev.bind hr ?_
  by_cases c : r < 0
  · exact ev_if c (Ev.now _)
  have hl := hr2 c
  obtain ⟨q, hs, hi⟩ := left_both l hl
  refine ev_else c (Ev.bind (toS_ev l hl) (Ev.bind hs (Ev.bind (toS_ev l hl) (ev_bind hi (ev_if rfl ?_)))))
  refine Ev.step (fun k => rfl) ?_
  simp only [laws_FnExactLeftOnTablet.j0]
  exact ev_else (by simp) (Ev.bind (toS_ev l hl) (Ev.bind (eqStringS_self l hl) (ev_if rfl (Ev.now _))))

end Go.Proofs.YtnbmpdpcbndooaaDoor.Pure
