/- For all arguments the program's HoursBySun returns what the reference's HoursBySun returns. Condition: the package variables unicode/utf8.first and unicode/utf8.acceptRanges hold what the library's text lays. -/
import Derived.Test.YtaocnjaeaiacmaaDoorR15
namespace Go.Proofs.YtaocnjaeaiacmaaDoor.Pure
open Go.RowKit Go.Proofs.YtaocnjaeaiacmaaDoor.R Go.Proofs.YtaocnjaeaiacmaaDoorW.PrintWords Go.Proofs.YtaocnjaeaiacmaaDoorW.PrintLast
set_option linter.unusedVariables false
set_option linter.unusedSimpArgs false

theorem w64 {x : Int} (h0 : -9223372036854775808 ≤ x) (h1 : x ≤ 9223372036854775807) : wrap64 x = x := by
  unfold wrap64
  omega
theorem wf_i64 {x : Int} (h : (Lit.int .i64 x).wf = true) : -9223372036854775808 ≤ x ∧ x ≤ 9223372036854775807 := by
  have hmin : IntKind.i64.min = -9223372036854775808 := rfl
  have hmax : IntKind.i64.max = 9223372036854775807 := rfl
  simp only [Lit.wf, Bool.and_eq_true, decide_eq_true_eq] at h
  omega

theorem two {α β : Type} {g : Nat → Option α} {f : Nat → Option β} {a : α} {b : β} (h : Ev g a) (h' : Ev f b) : ∃ k, g k = some a ∧ f k = some b := by
  obtain ⟨K, h⟩ := h
  obtain ⟨K', h'⟩ := h'
  exact ⟨max K K', h _ (by omega), h' _ (by omega)⟩
theorem str_app (xs ys : List Int) : strOfNums (xs ++ ys) = strOfNums xs ++ strOfNums ys := by
  apply ByteArray.ext
  simp [strOfNums]
theorem str_nil : strOfNums [] = (⟨#[]⟩ : ByteArray) := rfl
theorem str_size (xs : List Int) : (strOfNums xs).size = xs.length := by simp [strOfNums, ByteArray.size]
theorem ba_nil_app (b : ByteArray) : (⟨#[]⟩ : ByteArray) ++ b = b := by
  apply ByteArray.ext
  simp
theorem ba_app_nil (b : ByteArray) : b ++ (⟨#[]⟩ : ByteArray) = b := by
  apply ByteArray.ext
  simp
theorem ba_assoc (a b c : ByteArray) : a ++ b ++ c = a ++ (b ++ c) := by
  apply ByteArray.ext
  simp
theorem ev_if {α : Type} {c : Prop} [Decidable c] {g f : Nat → Option α} {r : α} (hc : c) (h : Ev g r) : Ev (fun k => if c then g k else f k) r :=
  Ev.congr (fun k => if_pos hc) h
theorem ev_else {α : Type} {c : Prop} [Decidable c] {g f : Nat → Option α} {r : α} (hc : ¬ c) (h : Ev f r) : Ev (fun k => if c then g k else f k) r :=
  Ev.congr (fun k => if_neg hc) h
theorem ev_bind {α β : Type} {a : α} {o : Option α} {f : Nat → α → Option β} {r : β} (h : o = some a) (k : Ev (fun n => f n a) r) : Ev (fun n => o.bind (f n)) r :=
  Ev.congr (fun n => by rw [h]; rfl) k

theorem l1In_eq (a b c : Int) : spec_l1In.f a b c = some (decide (b ≤ a ∧ a ≤ c)) := by
  unfold spec_l1In.f
  by_cases h : b ≤ a
  · rw [if_pos (show a ≥ b from h)]; simp [h]
  · rw [if_neg (show ¬ a ≥ b from h)]; simp [h]
theorem within_eq (a b c : Int) : impl_within.f a b c = some (decide (b ≤ a ∧ a ≤ c)) := by
  unfold impl_within.f
  by_cases h : b ≤ a
  · rw [if_pos h]; simp [h]
  · rw [if_neg h]; simp [h]
theorem within_l1In (a b c : Int) : impl_within.f a b c = spec_l1In.f a b c := by rw [within_eq, l1In_eq]

/-! ### Texts -/
theorem w64s {j : Nat} (h : j < 9223372036854775807) : wrap64 ((j : Int) + 1) = ((j + 1 : Nat) : Int) := by
  rw [w64 (by omega) (by omega)]; omega
theorem rdOf_nat {α : Type} (d : α) (xs : List α) (j : Nat) (h : j < xs.length) : rdOf d xs (j : Int) = xs[j] := by
  simp [rdOf, List.getD_eq_getElem?_getD, List.getElem?_eq_getElem h]
theorem eqStringS_l0 (xs : List ByteArray) (hx : xs.length ≤ 1048576) (d : Nat) : ∀ j : Nat, j + d = xs.length → Ev (fun k => laws_eqStringS.l0 k xs xs (j : Int)) true := by
  induction d with
  | zero =>
    intro j hj
    refine Ev.step (fun k => rfl) ?_
    simp only [laws_eqStringS.l0]
    exact ev_else (by omega) (Ev.now _)
  | succ d ih =>
    intro j hj
    refine Ev.step (fun k => rfl) ?_
    simp only [laws_eqStringS.l0]
    refine ev_if (by omega) (ev_if (by omega) (ev_if (by omega) (ev_if ?_ ?_)))
    · first | rfl | trivial
    rw [w64s (by omega)]
    exact ih (j + 1) (by omega)
theorem eqStringS_self (xs : List ByteArray) (hx : xs.length ≤ 1048576) : Ev (fun k => laws_eqStringS.f k xs xs) true := by
  unfold laws_eqStringS.f
  exact ev_if rfl (eqStringS_l0 xs hx xs.length 0 (by omega))

/-! ### Bytes of a text -/
theorem sz_list (s : ByteArray) : s.data.toList.length = s.size := by rw [Array.length_toList]; rfl
theorem bt_list (s : ByteArray) (j : Nat) (h : j < s.data.toList.length) : bt s (j : Int) = ((s.data.toList[j]'h).toNat : Int) := by
  rw [sz_list] at h
  unfold bt
  rw [dif_pos (by rw [Int.toNat_natCast]; exact h)]
  simp only [Int.toNat_natCast]
  rfl
theorem u8_eq (b : UInt8) (n : Nat) (c : UInt8) (hc : c.toNat = n) : ((b.toNat : Int) = (n : Int)) ↔ b = c := by
  constructor
  · intro h
    apply UInt8.toNat_inj.mp
    omega
  · rintro rfl
    rw [hc]
theorem dw_nil {α : Type} (p : α → Bool) (l : List α) : l.all p = true → l.dropWhile p = [] := by
  induction l with
  | nil => intro _; rfl
  | cons a l ih =>
    intro h
    rw [List.all_cons, Bool.and_eq_true] at h
    rw [List.dropWhile_cons, if_pos h.1]
    exact ih h.2
theorem dw_all {α : Type} (p : α → Bool) (l : List α) : (l.dropWhile p).all p = true → l.all p = true := by
  induction l with
  | nil => intro _; rfl
  | cons a l ih =>
    intro h
    rw [List.dropWhile_cons] at h
    by_cases c : p a = true
    · rw [if_pos c] at h
      rw [List.all_cons, c, ih h]; rfl
    · rw [if_neg c] at h
      exact h
theorem trimS_all (l cs : List UInt8) : (Lib.trimS l cs == []) = l.all (cs.contains ·) := by
  cases h : l.all (cs.contains ·) with
  | true =>
    have hr : l.reverse.all (cs.contains ·) = true := by rw [List.all_reverse]; exact h
    have e : Lib.trimRightS l cs = [] := by
      unfold Lib.trimRightS
      rw [dw_nil _ _ hr]; rfl
    unfold Lib.trimS
    rw [e]
    rfl
  | false =>
    rw [beq_eq_false_iff_ne]
    intro e
    have h1 : (Lib.trimRightS l cs).all (cs.contains ·) = true := by
      refine dw_all _ _ ?_
      have e' : List.dropWhile (cs.contains ·) (Lib.trimRightS l cs) = [] := e
      rw [e']
      rfl
    have h2 : (l.reverse.dropWhile (cs.contains ·)).all (cs.contains ·) = true := by
      have h3 := h1
      unfold Lib.trimRightS at h3
      rw [List.all_reverse] at h3
      exact h3
    have h4 := dw_all _ _ h2
    rw [List.all_reverse, h] at h4
    cases h4

/-! ### Arguments: lists of texts -/
theorem szS_l0 (xs : List ByteArray) (hx : xs.length ≤ 1048576) (hs : ∀ x ∈ xs, x.size ≤ 9223372036854775807) (d : Nat) : ∀ (j : Nat) (left : Int), j + d = xs.length → 0 ≤ left → left ≤ 1048576 → ∃ r, Ev (fun k => laws_szStringS.l0 k xs left (j : Int)) r := by
  induction d with
  | zero =>
    intro j left hj h0 h1
    refine ⟨left, Ev.step (fun k => rfl) ?_⟩
    simp only [laws_szStringS.l0]
    exact ev_else (by omega) (Ev.now _)
  | succ d ih =>
    intro j left hj h0 h1
    have hl : j < xs.length := by omega
    have hb := hs _ (List.getElem_mem hl)
    have e : wrap64 (left - (xs[j].size : Int)) = left - (xs[j].size : Int) := w64 (by omega) (by omega)
    by_cases c : left - (xs[j].size : Int) < 0
    · refine ⟨-1, Ev.step (fun k => rfl) ?_⟩
      simp only [laws_szStringS.l0]
      rw [rdOf_nat _ _ j hl, e]
      exact ev_if (by omega) (ev_if (by omega) (ev_if c (Ev.now _)))
    · obtain ⟨r, hr⟩ := ih (j + 1) (left - (xs[j].size : Int)) (by omega) (by omega) (by omega)
      refine ⟨r, Ev.step (fun k => rfl) ?_⟩
      simp only [laws_szStringS.l0]
      rw [rdOf_nat _ _ j hl, e, w64s (by omega)]
      exact ev_if (by omega) (ev_if (by omega) (ev_else c hr))
theorem szS_ev (xs : List ByteArray) (h1 : xs.length ≤ 9223372036854775807) (hs : ∀ x ∈ xs, x.size ≤ 9223372036854775807) : ∃ r, Ev (fun k => laws_szStringS.f k xs 1048576) r ∧ (¬ r < 0 → xs.length ≤ 1048576) := by
  unfold laws_szStringS.f
  have e : wrap64 (1048576 - (xs.length : Int)) = 1048576 - (xs.length : Int) := w64 (by omega) (by omega)
  rw [e]
  by_cases c : 1048576 - (xs.length : Int) < 0
  · exact ⟨-1, ev_if c (Ev.now _), fun h => absurd (show (-1 : Int) < 0 by omega) h⟩
  · obtain ⟨r, hr⟩ := szS_l0 xs (by omega) hs xs.length 0 (1048576 - (xs.length : Int)) (by omega) (by omega) (by omega)
    exact ⟨r, ev_else c hr, fun _ => by omega⟩
theorem toS_l0 (xs : List ByteArray) (hx : xs.length ≤ 1048576) (d : Nat) : ∀ j : Nat, j + d = xs.length → Ev (fun k => laws_toStringS.l0 k xs (xs.take j ++ List.replicate d (⟨#[]⟩ : ByteArray)) (j : Int)) xs := by
  induction d with
  | zero =>
    intro j hj
    refine Ev.step (fun k => rfl) ?_
    simp only [laws_toStringS.l0]
    rw [List.take_of_length_le (by omega), List.replicate_zero, List.append_nil]
    exact ev_else (by omega) (Ev.now _)
  | succ d ih =>
    intro j hj
    have hl : j < xs.length := by omega
    have ht : (xs.take j).length = j := by rw [List.length_take]; omega
    have e : (xs.take j ++ List.replicate (d + 1) (⟨#[]⟩ : ByteArray)).set j xs[j] = xs.take (j + 1) ++ List.replicate d (⟨#[]⟩ : ByteArray) := by
      rw [List.set_append, if_neg (by omega), ht, Nat.sub_self, List.replicate_succ, List.set_cons_zero, List.take_succ_eq_append_getElem hl, List.append_assoc]
      rfl
    refine Ev.step (fun k => rfl) ?_
    simp only [laws_toStringS.l0]
    rw [rdOf_nat _ _ j hl, Int.toNat_natCast, e, w64s (by omega)]
    exact ev_if (by omega) (ev_if (by omega) (ev_if (by rw [List.length_append, List.length_replicate, ht]; omega) (ih (j + 1) (by omega))))
theorem toS_ev (xs : List ByteArray) (hx : xs.length ≤ 1048576) : Ev (fun k => laws_toStringS.f k xs) xs := by
  unfold laws_toStringS.f
  rw [Int.toNat_natCast]
  exact ev_if (by omega) (ev_if (by omega) (toS_l0 xs hx xs.length 0 (by omega)))

/-! ### Tablets -/
def okSq (b : UInt8) : Bool := b == 35 || b == 46
def okRow (n : Nat) (r : ByteArray) : Bool := decide (r.size = n) && r.data.toList.all okSq
def good (l : List ByteArray) : Bool :=
  decide (1 ≤ (l.length : Int) ∧ (l.length : Int) ≤ 10) && (decide (1 ≤ ((rdOf ByteArray.empty l 0).size : Int) ∧ ((rdOf ByteArray.empty l 0).size : Int) ≤ 10) && l.all (okRow (rdOf ByteArray.empty l 0).size))
theorem mlGood_l1 (l : List ByteArray) (r : ByteArray) (hr : r.size ≤ 1048576) (i : Int) (n : Nat) (b : Bool) (hE : Ev (fun k => spec_mlGood.l0 k l l (n : Int) (wrap64 (i + 1))) b) (d : Nat) :
    ∀ j : Nat, j + d = r.size → Ev (fun k => spec_mlGood.l1 k l r (j : Int) l (n : Int) i) ((r.data.toList.drop j).all okSq && b) := by
  have hl := sz_list r
  induction d with
  | zero =>
    intro j hj
    refine Ev.step (fun k => rfl) ?_
    simp only [spec_mlGood.l1]
    rw [List.drop_of_length_le (by omega)]
    exact ev_else (by omega) hE
  | succ d ih =>
    intro j hj
    have hj' : j < r.data.toList.length := by omega
    rw [List.drop_eq_getElem_cons hj', List.all_cons]
    refine Ev.step (fun k => rfl) ?_
    simp only [spec_mlGood.l1]
    rw [bt_list r j hj', w64s (by omega)]
    have h1 := u8_eq (r.data.toList[j]) 35 35 rfl
    have h2 := u8_eq (r.data.toList[j]) 46 46 rfl
    refine ev_if (by omega) (ev_if (by omega) ?_)
    by_cases c1 : r.data.toList[j] = 35
    · have e : okSq r.data.toList[j] = true := by rw [c1]; rfl
      rw [e, Bool.true_and]
      exact ev_if (h1.mpr c1) (ih (j + 1) (by omega))
    · by_cases c2 : r.data.toList[j] = 46
      · have e : okSq r.data.toList[j] = true := by rw [c2]; rfl
        rw [e, Bool.true_and]
        exact ev_else (fun h => c1 (h1.mp h)) (ev_if (h2.mpr c2) (ih (j + 1) (by omega)))
      · have e : okSq r.data.toList[j] = false := by unfold okSq; rw [beq_false_of_ne c1, beq_false_of_ne c2]; rfl
        rw [e, Bool.false_and, Bool.false_and]
        exact ev_else (fun h => c1 (h1.mp h)) (ev_else (fun h => c2 (h2.mp h)) (Ev.now _))
theorem mlGood_l0 (l : List ByteArray) (hx : l.length ≤ 1048576) (hn : (rdOf ByteArray.empty l 0).size ≤ 1048576) (d : Nat) :
    ∀ j : Nat, j + d = l.length → Ev (fun k => spec_mlGood.l0 k l l (l.length : Int) (j : Int)) ((l.drop j).all (okRow (rdOf ByteArray.empty l 0).size)) := by
  induction d with
  | zero =>
    intro j hj
    refine Ev.step (fun k => rfl) ?_
    simp only [spec_mlGood.l0]
    rw [List.drop_of_length_le (by omega)]
    exact ev_else (by omega) (Ev.now _)
  | succ d ih =>
    intro j hj
    have hl : j < l.length := by omega
    have hE := ih (j + 1) (by omega)
    rw [List.drop_eq_getElem_cons hl, List.all_cons]
    refine Ev.step (fun k => rfl) ?_
    simp only [spec_mlGood.l0]
    rw [rdOf_nat _ _ j hl]
    refine ev_if (by omega) (ev_if (by omega) (ev_if (by omega) (ev_if (by omega) ?_)))
    by_cases c : l[j].size = (rdOf ByteArray.empty l 0).size
    · refine ev_if (by omega) ?_
      have h := mlGood_l1 l l[j] (by omega) (j : Int) l.length _ (by rw [w64s (by omega)]; exact hE) l[j].size 0 (by omega)
      rw [List.drop_zero] at h
      unfold okRow at h ⊢
      rw [decide_eq_true c, Bool.true_and]
      exact h
    · refine ev_else (by omega) ?_
      rw [show okRow (rdOf ByteArray.empty l 0).size l[j] = false by unfold okRow; rw [decide_eq_false c]; rfl, Bool.false_and]
      exact Ev.now _
theorem mlGood_ev (l : List ByteArray) (hx : l.length ≤ 1048576) : Ev (fun k => spec_mlGood.f k l) (good l) := by
  unfold spec_mlGood.f good
  simp only [l1In_eq, Option.bind_some]
  by_cases c : 1 ≤ (l.length : Int) ∧ (l.length : Int) ≤ 10
  · refine ev_if (by simpa using c) (ev_if (by omega) ?_)
    rw [decide_eq_true c, Bool.true_and]
    refine Ev.step (fun k => rfl) ?_
    simp only [spec_mlGood.j0]
    by_cases c2 : 1 ≤ ((rdOf ByteArray.empty l 0).size : Int) ∧ ((rdOf ByteArray.empty l 0).size : Int) ≤ 10
    · rw [decide_eq_true c2, Bool.true_and]
      exact ev_else (by simp) (mlGood_l0 l hx (by omega) l.length 0 (by omega))
    · rw [decide_eq_false c2, Bool.false_and]
      exact ev_if rfl (Ev.now _)
  · refine ev_else (by simpa using c) ?_
    rw [decide_eq_false c, Bool.false_and]
    refine Ev.step (fun k => rfl) ?_
    simp only [spec_mlGood.j0]
    exact ev_if (by first | rfl | trivial) (Ev.now _)
theorem badRow_eq (n : Nat) (h : 1 ≤ (n : Int) ∧ (n : Int) ≤ 10) (x : ByteArray) : badRow n 10 (⟨#[35, 46]⟩ : ByteArray) x = !okRow n x := by
  unfold badRow okRow
  by_cases c : x.size = n
  · rw [decide_eq_true c, decide_eq_true (show 1 ≤ (x.size : Int) ∧ (x.size : Int) ≤ 10 by omega), ByteArray.toList_eq]
    show (!(Lib.trimS x.data.toList [35, 46]).isEmpty) = !(x.data.toList.all okSq)
    rw [show (Lib.trimS x.data.toList [35, 46]).isEmpty = (Lib.trimS x.data.toList [35, 46] == []) by cases Lib.trimS x.data.toList [35, 46] <;> rfl, trimS_all]
    congr 2
    funext b
    unfold okSq
    rw [List.contains_cons, List.contains_cons, List.contains_nil, Bool.or_false]
  · rw [decide_eq_false c]; rfl
theorem areRows_eq (l : List ByteArray) : impl_areRows.f l 10 (⟨#[35, 46]⟩ : ByteArray) = some (good l) := by
  unfold impl_areRows.f good
  rw [if_pos ⟨by omega, by decide, by decide⟩]
  congr 1
  by_cases c : 1 ≤ (l.length : Int) ∧ (l.length : Int) ≤ 10
  · congr 1
    by_cases c2 : 1 ≤ ((rdOf ByteArray.empty l 0).size : Int) ∧ ((rdOf ByteArray.empty l 0).size : Int) ≤ 10
    · rw [decide_eq_true c2, Bool.true_and, List.any_eq_not_all_not, Bool.not_not]
      congr 1
      funext x
      rw [badRow_eq _ c2, Bool.not_not]
    · rw [decide_eq_false c2, Bool.false_and]
      have h0 : 0 < l.length := by omega
      have e : rdOf ByteArray.empty l 0 = l[0] := rdOf_nat _ l 0 h0
      have : l.any (badRow (rdOf ByteArray.empty l 0).size 10 (⟨#[35, 46]⟩ : ByteArray)) = true := by
        rw [List.any_eq_true]
        refine ⟨l[0], List.getElem_mem h0, ?_⟩
        rw [← e]
        unfold badRow
        rw [decide_eq_false c2]
        simp
      rw [this]; rfl
  · rw [decide_eq_false c, Bool.false_and, Bool.false_and]
theorem isTablet_eq (l : List ByteArray) : impl_IsTablet.f l = some (good l) := by
  unfold impl_IsTablet.f
  rw [areRows_eq]; rfl

/-! ### Tablets -/
def sqb (b : Bool) : UInt8 := if b then 35 else 46
/-- A row's text. -/
def rowOf (r : List Bool) : ByteArray := ⟨(r.map sqb).toArray⟩
theorem rowOf_size (r : List Bool) : (rowOf r).size = r.length := by simp [rowOf, ByteArray.size]
theorem rowOf_snoc (r : List Bool) (b : Bool) : rowOf (r ++ [b]) = rowOf r ++ (⟨#[sqb b]⟩ : ByteArray) := by
  apply ByteArray.ext
  simp [rowOf]
theorem flat_len (w : Nat) (rows : List (List Bool)) (h : ∀ r ∈ rows, r.length = w) : rows.flatten.length = w * rows.length := by
  induction rows with
  | nil => simp
  | cons r rows ih =>
    rw [List.flatten_cons, List.length_append, List.length_cons, ih (fun s hs => h s (List.mem_cons_of_mem _ hs)), h r (by simp), Nat.mul_succ]
    omega
theorem flat_slice (w : Nat) (rows : List (List Bool)) (h : ∀ r ∈ rows, r.length = w) (j : Nat) (hj : j < rows.length) : (rows.flatten.take (w * j + w)).drop (w * j) = rows[j] := by
  have e : rows = rows.take j ++ rows[j] :: rows.drop (j + 1) := by
    rw [← List.drop_eq_getElem_cons hj, List.take_append_drop]
  have h1 : (rows.take j).flatten.length = w * j := by
    rw [flat_len w _ (fun r hr => h r (List.mem_of_mem_take hr)), List.length_take, Nat.min_eq_left (by omega)]
  have h2 : rows[j].length = w := h _ (List.getElem_mem hj)
  have e2 : rows.flatten = (rows.take j).flatten ++ (rows[j] ++ (rows.drop (j + 1)).flatten) := by
    conv => lhs; rw [e]
    rw [List.flatten_append, List.flatten_cons]
  rw [e2, List.take_append, h1, List.take_of_length_le (l := (rows.take j).flatten) (by rw [h1]; omega), show w * j + w - w * j = w by omega, List.take_append, List.take_of_length_le (l := rows[j]) (by omega), h2, Nat.sub_self, List.take_zero, List.append_nil]
  rw [← h1, List.drop_left]

theorem mlOf_l1 (w : Int) (is : List Bool) (out : List ByteArray) (fr : Int) (r : List Bool) (hr : r.length ≤ 1000000) (ho : out.length < 8796093022208) (R : List ByteArray)
    (hE : Ev (fun k => spec_mlOf.l0 k w is (out ++ [rowOf r]) (wrap64 (fr + w))) R) (d : Nat) : ∀ j : Nat, j + d = r.length → Ev (fun k => spec_mlOf.l1 k w is out fr (rowOf (r.take j)) r (r.length : Int) (j : Int)) R := by
  induction d with
  | zero =>
    intro j hj
    refine Ev.step (fun k => rfl) ?_
    simp only [spec_mlOf.l1]
    rw [List.take_of_length_le (by omega)]
    exact ev_else (by omega) (ev_if ho hE)
  | succ d ih =>
    intro j hj
    have hl : j < r.length := by omega
    have e1 : rowOf (r.take (j + 1)) = rowOf (r.take j) ++ (⟨#[sqb r[j]]⟩ : ByteArray) := by
      rw [List.take_succ_eq_append_getElem hl, rowOf_snoc]
    have hs : (rowOf (r.take j)).size ≤ 1000000 := by rw [rowOf_size, List.length_take]; omega
    have h := ih (j + 1) (by omega)
    rw [e1] at h
    refine Ev.step (fun k => rfl) ?_
    simp only [spec_mlOf.l1]
    refine ev_if (by omega) (ev_if (by omega) (ev_if (by omega) ?_))
    rw [rdOf_nat _ _ j hl, w64s (by omega)]
    cases hb : r[j] with
    | true => rw [hb] at h; exact ev_if rfl (ev_if (by omega) h)
    | false => rw [hb] at h; exact ev_else (by simp) (ev_if (by omega) h)
theorem mlOf_l0 (w : Nat) (hw : 1 ≤ w ∧ w ≤ 1000) (rows : List (List Bool)) (hn : rows.length ≤ 1000) (h : ∀ r ∈ rows, r.length = w) (d : Nat) : ∀ j : Nat, j + d = rows.length →
    Ev (fun k => spec_mlOf.l0 k (w : Int) rows.flatten ((rows.take j).map rowOf) ((w * j : Nat) : Int)) (rows.map rowOf) := by
  have hf := flat_len w rows h
  have hb : w * rows.length ≤ 1000 * 1000 := Nat.mul_le_mul hw.2 hn
  induction d with
  | zero =>
    intro j hj
    obtain rfl : j = rows.length := by omega
    refine Ev.step (fun k => rfl) ?_
    simp only [spec_mlOf.l0]
    rw [List.take_of_length_le (Nat.le_refl _)]
    exact ev_else (by omega) (Ev.now _)
  | succ d ih =>
    intro j hj
    have hl : j < rows.length := by omega
    have hm : w * (j + 1) ≤ w * rows.length := Nat.mul_le_mul_left _ (by omega)
    rw [Nat.mul_succ] at hm
    have hn2 := ih (j + 1) (by omega)
    rw [Nat.mul_succ, List.take_succ_eq_append_getElem hl, List.map_append] at hn2
    have hs := flat_slice w rows h j hl
    obtain ⟨p, hp⟩ : ∃ p, p = w * j := ⟨_, rfl⟩
    rw [← hp] at hm hn2 hs ⊢
    have e1 : wrap64 ((p : Int) + (w : Int)) = ((p + w : Nat) : Int) := by rw [w64 (by omega) (by omega)]; omega
    refine Ev.step (fun k => rfl) ?_
    simp only [spec_mlOf.l0]
    rw [e1, Int.toNat_natCast, Int.toNat_natCast, hs]
    refine ev_if (by omega) (ev_if (by omega) (ev_if (by omega) (ev_if (by omega) ?_)))
    have hr := h _ (List.getElem_mem hl)
    exact mlOf_l1 (w : Int) rows.flatten _ (p : Int) rows[j] (by omega) (by rw [List.length_map, List.length_take]; omega) _ (by rw [e1]; exact hn2) rows[j].length 0 (by omega)
theorem mlOf_ev (w : Nat) (hw : 1 ≤ w ∧ w ≤ 1000) (rows : List (List Bool)) (hn : rows.length ≤ 1000) (h : ∀ r ∈ rows, r.length = w) : Ev (fun k => spec_mlOf.f k (w : Int) rows.flatten) (rows.map rowOf) :=
  mlOf_l0 w hw rows hn h rows.length 0 (by omega)

/-! ### Tablets as rows of squares -/
theorem sqb_is (b : UInt8) (h : okSq b = true) : sqb (b == 35) = b := by
  unfold okSq at h
  by_cases c : b = 35
  · subst c; rfl
  · rw [beq_false_of_ne c, Bool.false_or, beq_iff_eq] at h
    subst h; rfl
def gridOf (l : List ByteArray) : List (List Bool) := l.map fun r => r.data.toList.map (· == 35)
theorem rowOf_grid (r : ByteArray) (h : r.data.toList.all okSq = true) : rowOf (r.data.toList.map (· == 35)) = r := by
  apply ByteArray.ext
  show ((r.data.toList.map (· == 35)).map sqb).toArray = r.data
  rw [List.map_map, (List.map_congr_left (fun b hb => sqb_is b (List.all_eq_true.1 h b hb)) : r.data.toList.map (sqb ∘ (· == 35)) = r.data.toList.map id), List.map_id]
theorem good_grid (l : List ByteArray) (h : good l = true) : ∃ (w : Nat) (rows : List (List Bool)), l = rows.map rowOf ∧ (1 ≤ w ∧ w ≤ 10) ∧ (1 ≤ rows.length ∧ rows.length ≤ 10) ∧ ∀ r ∈ rows, r.length = w := by
  unfold good at h
  simp only [Bool.and_eq_true, decide_eq_true_eq, List.all_eq_true] at h
  obtain ⟨⟨h1, h2⟩, ⟨h3, h4⟩, h5⟩ := h
  have h6 : ∀ r ∈ l, r.size = (rdOf ByteArray.empty l 0).size ∧ r.data.toList.all okSq = true := by
    intro r hr
    have := h5 r hr
    unfold okRow at this
    rw [Bool.and_eq_true] at this
    exact ⟨of_decide_eq_true this.1, this.2⟩
  refine ⟨(rdOf ByteArray.empty l 0).size, gridOf l, ?_, by omega, by unfold gridOf; rw [List.length_map]; omega, ?_⟩
  · unfold gridOf
    rw [List.map_map]
    exact ((List.map_congr_left (fun r hr => rowOf_grid r (h6 r hr).2) : l.map (rowOf ∘ fun r => r.data.toList.map (· == 35)) = l.map id).trans (List.map_id _)).symm
  · intro r hr
    unfold gridOf at hr
    obtain ⟨s, hs, rfl⟩ := List.mem_map.1 hr
    rw [List.length_map, sz_list]
    exact (h6 s hs).1
theorem rowOf_list (r : List Bool) : (rowOf r).data.toList = r.map sqb := by simp [rowOf]
theorem bt_row (r : List Bool) (i : Nat) (h : i < r.length) : (bt (rowOf r) (i : Int) == 35) = r[i] := by
  have h' : i < (rowOf r).data.toList.length := by rw [rowOf_list, List.length_map]; exact h
  have e : (rowOf r).data.toList[i] = sqb r[i] := by simp [rowOf_list]
  rw [bt_list (rowOf r) i h', e]
  cases r[i] <;> rfl
theorem rd_row (rows : List (List Bool)) (j : Nat) (h : j < rows.length) : rdOf ByteArray.empty (rows.map rowOf) (j : Int) = rowOf rows[j] := by
  rw [rdOf_nat _ _ j (by rw [List.length_map]; exact h), List.getElem_map]
theorem rd_row0 (w : Nat) (rows : List (List Bool)) (h : 1 ≤ rows.length) (hr : ∀ r ∈ rows, r.length = w) : (rdOf ByteArray.empty (rows.map rowOf) 0).size = w := by
  have e : rdOf ByteArray.empty (rows.map rowOf) 0 = rowOf rows[0] := rd_row rows 0 h
  rw [e, rowOf_size]
  exact hr _ (List.getElem_mem h)
/-- Is there a square at a place? -/
def atG (w : Nat) (rows : List (List Bool)) (x y : Int) : Bool :=
  if (0 ≤ y ∧ y ≤ (rows.length : Int) - 1) ∧ (0 ≤ x ∧ x ≤ (w : Int) - 1) then (rows.getD y.toNat []).getD x.toNat false else false
theorem atG_nat (w : Nat) (rows : List (List Bool)) (hr : ∀ r ∈ rows, r.length = w) (x y : Nat) (hy : y < rows.length) (hx : x < rows[y].length) : atG w rows (x : Int) (y : Int) = rows[y][x] := by
  have hw := hr _ (List.getElem_mem hy)
  unfold atG
  rw [if_pos ⟨by omega, by omega⟩, Int.toNat_natCast, Int.toNat_natCast]
  simp [List.getD_eq_getElem?_getD, List.getElem?_eq_getElem hy, List.getElem?_eq_getElem hx]
theorem flat_le (w : Nat) (rows : List (List Bool)) (hw : 1 ≤ w ∧ w ≤ 10) (hn : 1 ≤ rows.length ∧ rows.length ≤ 10) (hr : ∀ r ∈ rows, r.length = w) : rows.flatten.length ≤ 100 := by
  rw [flat_len w rows hr]
  exact Nat.mul_le_mul hw.2 hn.2

theorem mlIs_l1 (xs : List ByteArray) (r : List Bool) (hr : r.length ≤ 1000) (n j : Int) (acc : List Bool) (ha : acc.length ≤ 1000000) (R : List Bool) (hE : Ev (fun k => spec_mlIs.l0 k (acc ++ r) xs n (wrap64 (j + 1))) R) (d : Nat) :
    ∀ i : Nat, i + d = r.length → Ev (fun k => spec_mlIs.l1 k (acc ++ r.take i) (rowOf r) (i : Int) xs n j) R := by
  have hs := rowOf_size r
  induction d with
  | zero =>
    intro i hi
    refine Ev.step (fun k => rfl) ?_
    simp only [spec_mlIs.l1]
    rw [List.take_of_length_le (by omega)]
    exact ev_else (by omega) hE
  | succ d ih =>
    intro i hi
    have hl : i < r.length := by omega
    have h := ih (i + 1) (by omega)
    rw [List.take_succ_eq_append_getElem hl, ← List.append_assoc] at h
    refine Ev.step (fun k => rfl) ?_
    simp only [spec_mlIs.l1]
    rw [bt_row r i hl, w64s (by omega)]
    exact ev_if (by omega) (ev_if (by omega) (ev_if (by rw [List.length_append, List.length_take]; omega) h))
theorem mlIs_l0 (rows : List (List Bool)) (hn : rows.length ≤ 1000) (hr : ∀ r ∈ rows, r.length ≤ 1000) (hf : rows.flatten.length ≤ 1000000) (d : Nat) :
    ∀ j : Nat, j + d = rows.length → Ev (fun k => spec_mlIs.l0 k (rows.take j).flatten (rows.map rowOf) (rows.length : Int) (j : Int)) rows.flatten := by
  induction d with
  | zero =>
    intro j hj
    refine Ev.step (fun k => rfl) ?_
    simp only [spec_mlIs.l0]
    rw [List.take_of_length_le (by omega)]
    exact ev_else (by omega) (Ev.now _)
  | succ d ih =>
    intro j hj
    have hl : j < rows.length := by omega
    have h := ih (j + 1) (by omega)
    rw [List.take_succ_eq_append_getElem hl, List.flatten_append, List.flatten_cons, List.flatten_nil, List.append_nil] at h
    have hb : (rows.take j).flatten.length ≤ 1000000 := by
      have e : rows.flatten.length = (rows.take j).flatten.length + (rows.drop j).flatten.length := by
        rw [← List.length_append, ← List.flatten_append, List.take_append_drop]
      omega
    refine Ev.step (fun k => rfl) ?_
    simp only [spec_mlIs.l0]
    rw [rd_row rows j hl]
    have h2 := mlIs_l1 (rows.map rowOf) rows[j] (hr _ (List.getElem_mem hl)) (rows.length : Int) (j : Int) (rows.take j).flatten hb _ (by rw [w64s (by omega)]; exact h) rows[j].length 0 (by omega)
    rw [List.take_zero, List.append_nil] at h2
    exact ev_if (by omega) (ev_if (by omega) (ev_if (by rw [List.length_map]; omega) h2))
theorem mlIs_ev (w : Nat) (rows : List (List Bool)) (hw : 1 ≤ w ∧ w ≤ 10) (hn : 1 ≤ rows.length ∧ rows.length ≤ 10) (hr : ∀ r ∈ rows, r.length = w) : Ev (fun k => spec_mlIs.f k (rows.map rowOf)) rows.flatten := by
  have hf := flat_le w rows hw hn hr
  unfold spec_mlIs.f
  rw [List.length_map]
  exact mlIs_l0 rows (by omega) (fun r h => by rw [hr r h]; omega) (by omega) rows.length 0 (by omega)

def IsG (w : Nat) (g : List (List Bool)) : Prop := (1 ≤ w ∧ w ≤ 10) ∧ (1 ≤ g.length ∧ g.length ≤ 10) ∧ ∀ r ∈ g, r.length = w
/-- How many squares there are. -/
def cntG (g : List (List Bool)) : Nat := g.flatten.count true

/-! ### How many squares there are -/
theorem mlLeft_l0 (bs : List Bool) (hb : bs.length ≤ 1000000) (d : Nat) : ∀ j : Nat, j + d = bs.length → Ev (fun k => spec_mlLeft.l0 k (((bs.take j).count true : Nat) : Int) bs (bs.length : Int) (j : Int)) ((bs.count true : Nat) : Int) := by
  induction d with
  | zero =>
    intro j hj
    refine Ev.step (fun k => rfl) ?_
    simp only [spec_mlLeft.l0]
    rw [List.take_of_length_le (by omega)]
    exact ev_else (by omega) (Ev.now _)
  | succ d ih =>
    intro j hj
    have hl : j < bs.length := by omega
    have h := ih (j + 1) (by omega)
    have hc : (bs.take j).count true ≤ (bs.take j).length := List.count_le_length
    rw [List.length_take] at hc
    rw [List.take_succ_eq_append_getElem hl, List.count_append] at h
    refine Ev.step (fun k => rfl) ?_
    simp only [spec_mlLeft.l0]
    rw [rdOf_nat _ _ j hl, w64s (j := j) (by omega)]
    refine ev_if (by omega) (ev_if (by omega) (ev_if (by omega) ?_))
    cases hbj : bs[j] with
    | true =>
      rw [hbj] at h
      rw [w64s (j := (bs.take j).count true) (by omega)]
      exact ev_if rfl h
    | false =>
      rw [hbj, show [false].count true = 0 from rfl, Nat.add_zero] at h
      exact ev_else (by simp) h
theorem mlLeft_ev (w : Nat) (g : List (List Bool)) (h : IsG w g) : Ev (fun k => spec_mlLeft.f k (g.map rowOf)) ((cntG g : Nat) : Int) := by
  have hf := flat_le w g h.1 h.2.1 h.2.2
  unfold spec_mlLeft.f
  refine Ev.bind (mlIs_ev w g h.1 h.2.1 h.2.2) ?_
  exact mlLeft_l0 g.flatten (by omega) g.flatten.length 0 (by omega)

theorem join_nil (xs : List (List UInt8)) : Lib.join xs [] = xs.flatten := by
  unfold Lib.join
  induction xs with
  | nil => rfl
  | cons x r ih =>
    cases r with
    | nil => simp [List.intercalate]
    | cons y r =>
      have : List.intercalate [] (x :: y :: r) = x ++ List.intercalate [] (y :: r) := by simp [List.intercalate, List.intersperse]
      rw [this, ih]; rfl
theorem flat_map_sqb (g : List (List Bool)) : ((g.map rowOf).map (·.data.toList)).flatten = g.flatten.map sqb := by
  induction g with
  | nil => rfl
  | cons r g ih =>
    rw [List.map_cons, List.map_cons, List.flatten_cons, ih, List.flatten_cons, List.map_append, rowOf_list]
theorem count_sqb (bs : List Bool) : (bs.map sqb).count 35 = bs.count true := by
  induction bs with
  | nil => rfl
  | cons b bs ih => rw [List.map_cons, List.count_cons, List.count_cons, ih]; cases b <;> rfl

theorem left_eq (w : Nat) (g : List (List Bool)) (h : IsG w g) : impl_left.f (g.map rowOf) = some ((cntG g : Nat) : Int) := by
  have hf := flat_le w g h.1 h.2.1 h.2.2
  unfold impl_left.f strings_Join.f
  rw [show (⟨#[]⟩ : ByteArray).data.toList = [] from rfl, join_nil, flat_map_sqb, if_pos ⟨by rw [List.length_map]; have := h.2.1; omega, by rw [List.length_map]; omega⟩]
  simp only [Option.bind_some]
  unfold strings_Count.f
  rw [if_pos (show (⟨#[35]⟩ : ByteArray).size = 1 from rfl)]
  show some (((g.flatten.map sqb).count 35 : Nat) : Int) = _
  rw [count_sqb]; rfl

/-! ### A square bitten off -/
/-- Rows without the square at a place. -/
def offG (rows : List (List Bool)) (x y : Nat) : List (List Bool) := rows.set y ((rows.getD y []).set x false)
theorem offG_len (rows : List (List Bool)) (x y : Nat) : (offG rows x y).length = rows.length := by simp [offG]
theorem offG_w (w : Nat) (rows : List (List Bool)) (hr : ∀ r ∈ rows, r.length = w) (x y : Nat) (hy : y < rows.length) : ∀ r ∈ offG rows x y, r.length = w := by
  intro r h
  unfold offG at h
  rcases List.mem_or_eq_of_mem_set h with h | h
  · exact hr r h
  · rw [h, List.length_set, List.getD_eq_getElem?_getD, List.getElem?_eq_getElem hy]
    exact hr _ (List.getElem_mem hy)
theorem flat_set (w : Nat) (rows : List (List Bool)) (hr : ∀ r ∈ rows, r.length = w) (x y : Nat) (hy : y < rows.length) (hx : x < w) : rows.flatten.set (w * y + x) false = (offG rows x y).flatten := by
  have e : rows = rows.take y ++ rows[y] :: rows.drop (y + 1) := by
    rw [← List.drop_eq_getElem_cons hy, List.take_append_drop]
  have h1 : (rows.take y).flatten.length = w * y := by
    rw [flat_len w _ (fun r h => hr r (List.mem_of_mem_take h)), List.length_take, Nat.min_eq_left (by omega)]
  have h2 : rows[y].length = w := hr _ (List.getElem_mem hy)
  have e2 : rows.flatten = (rows.take y).flatten ++ (rows[y] ++ (rows.drop (y + 1)).flatten) := by
    conv => lhs; rw [e]
    rw [List.flatten_append, List.flatten_cons]
  have e3 : offG rows x y = rows.take y ++ (rows[y].set x false) :: rows.drop (y + 1) := by
    unfold offG
    rw [List.getD_eq_getElem?_getD, List.getElem?_eq_getElem hy, List.set_eq_take_append_cons_drop, if_pos hy]
    rfl
  rw [e3, e2, List.flatten_append, List.flatten_cons, List.set_append, if_neg (by rw [h1]; omega), h1, Nat.add_sub_cancel_left, List.set_append, if_pos (by omega)]
theorem rowOf_off (r : List Bool) (x : Nat) (h : x < r.length) : (rowOf r).extract 0 x ++ strOfNums [46] ++ (rowOf r).extract (x + 1) r.length = rowOf (r.set x false) := by
  apply ByteArray.ext
  apply Array.toList_inj.mp
  have e : (strOfNums [46]).data.toList = [46] := rfl
  rw [ByteArray.data_append, ByteArray.data_append, Array.toList_append, Array.toList_append, ByteArray.data_extract, ByteArray.data_extract, Array.toList_extract, Array.toList_extract, e, rowOf_list, rowOf_list]
  rw [List.set_eq_take_append_cons_drop, if_pos h, List.map_append, List.map_cons, List.map_take, List.map_drop]
  simp [sqb]
  exact List.take_of_length_le (by simp)

/-! ### Rows of squares: places, what is taken away, what is found -/
def atN (g : List (List Bool)) (x y : Nat) : Bool := (g.getD y []).getD x false
theorem atN_get (g : List (List Bool)) (x y : Nat) (hy : y < g.length) (hx : x < g[y].length) : atN g x y = g[y][x] := by
  simp [atN, List.getD_eq_getElem?_getD, List.getElem?_eq_getElem hy, List.getElem?_eq_getElem hx]
theorem atG_atN (w : Nat) (g : List (List Bool)) (x y : Nat) (hx : x < w) (hy : y < g.length) : atG w g (x : Int) (y : Int) = atN g x y := by
  unfold atG atN
  rw [if_pos ⟨by omega, by omega⟩, Int.toNat_natCast, Int.toNat_natCast]
theorem g_ext (w : Nat) (a b : List (List Bool)) (ha : ∀ r ∈ a, r.length = w) (hb : ∀ r ∈ b, r.length = w) (hl : a.length = b.length) (h : ∀ x y, x < w → y < a.length → atN a x y = atN b x y) : a = b := by
  apply List.ext_getElem hl
  intro y h1 h2
  apply List.ext_getElem (by rw [ha _ (List.getElem_mem h1), hb _ (List.getElem_mem h2)])
  intro x h3 h4
  have hw := ha _ (List.getElem_mem h1)
  have := h x y (by omega) h1
  rw [atN_get a x y h1 h3, atN_get b x y h2 h4] at this
  exact this
def mkG (w n : Nat) (f : Nat → Nat → Bool) : List (List Bool) := (List.range n).map fun y => (List.range w).map fun x => f x y
theorem mkG_len (w n : Nat) (f : Nat → Nat → Bool) : (mkG w n f).length = n := by simp [mkG]
theorem mkG_w (w n : Nat) (f : Nat → Nat → Bool) : ∀ r ∈ mkG w n f, r.length = w := by
  intro r hr
  obtain ⟨y, _, rfl⟩ := List.mem_map.1 hr
  simp
theorem mkG_at (w n : Nat) (f : Nat → Nat → Bool) (x y : Nat) (hx : x < w) (hy : y < n) : atN (mkG w n f) x y = f x y := by
  rw [atN_get (mkG w n f) x y (by rw [mkG_len]; exact hy) (by simp [mkG]; exact hx)]
  simp [mkG]
theorem mkG_of (w : Nat) (g : List (List Bool)) (h : ∀ r ∈ g, r.length = w) : mkG w g.length (atN g) = g :=
  g_ext w _ _ (mkG_w _ _ _) h (mkG_len _ _ _) (fun x y hx hy => mkG_at _ _ _ x y hx (by rw [mkG_len] at hy; exact hy))
/-- The places of all squares that some are accepted. -/
def spotsG (w : Nat) (g : List (List Bool)) (p : Nat → Nat → Bool) : List (Nat × Nat) := (List.range g.length).flatMap fun y => (List.range w).flatMap fun x => if (atN g x y && p x y) = true then [(x, y)] else []
theorem mem_spots (w : Nat) (g : List (List Bool)) (p : Nat → Nat → Bool) (x y : Nat) : (x, y) ∈ spotsG w g p ↔ y < g.length ∧ x < w ∧ atN g x y = true ∧ p x y = true := by
  unfold spotsG
  simp only [List.mem_flatMap, List.mem_range]
  constructor
  · rintro ⟨b, hb, a, ha, h⟩
    by_cases c : (atN g a b && p a b) = true
    · rw [if_pos c, List.mem_singleton, Prod.mk.injEq] at h
      obtain ⟨rfl, rfl⟩ := h
      rw [Bool.and_eq_true] at c
      exact ⟨hb, ha, c.1, c.2⟩
    · rw [if_neg c] at h; cases h
  · rintro ⟨hy, hx, h1, h2⟩
    exact ⟨y, hy, x, hx, by rw [if_pos (by rw [h1, h2]; rfl)]; simp⟩
theorem offG_at (g : List (List Bool)) (x y x' y' : Nat) (hy : y < g.length) (hx : x < (g.getD y []).length) : atN (offG g x y) x' y' = (atN g x' y' && !decide ((x', y') = (x, y))) := by
  unfold offG atN
  by_cases c : y' = y
  · subst c
    rw [List.getD_eq_getElem?_getD (l := g.set y' _), List.getElem?_set_self hy]
    show ((g.getD y' []).set x false).getD x' false = _
    by_cases c2 : x' = x
    · subst c2
      rw [List.getD_eq_getElem?_getD (l := (g.getD y' []).set x' false), List.getElem?_set_self hx]
      simp
    · rw [List.getD_eq_getElem?_getD (l := (g.getD y' []).set x false), List.getElem?_set_ne (fun e => c2 e.symm), ← List.getD_eq_getElem?_getD]
      simp [c2]
  · rw [List.getD_eq_getElem?_getD (l := g.set y _), List.getElem?_set_ne (fun e => c e.symm), ← List.getD_eq_getElem?_getD]
    simp [c]
/-- A tablet without the squares at some places. -/
def withoutG (g : List (List Bool)) (L : List (Nat × Nat)) : List (List Bool) := L.foldl (fun r p => offG r p.1 p.2) g
theorem without_keeps (w : Nat) (L : List (Nat × Nat)) : ∀ g : List (List Bool), (∀ r ∈ g, r.length = w) → (∀ p ∈ L, p.2 < g.length ∧ p.1 < w) → (withoutG g L).length = g.length ∧ (∀ r ∈ withoutG g L, r.length = w) ∧ ∀ x y, atN (withoutG g L) x y = (atN g x y && !decide ((x, y) ∈ L)) := by
  induction L with
  | nil => intro g hg _; exact ⟨rfl, hg, fun x y => by simp [withoutG]⟩
  | cons p L ih =>
    intro g hg hp
    have hp0 := hp p (by simp)
    have hw : (g.getD p.2 []).length = w := by
      rw [List.getD_eq_getElem?_getD, List.getElem?_eq_getElem hp0.1]
      exact hg _ (List.getElem_mem hp0.1)
    obtain ⟨h1, h2, h3⟩ := ih (offG g p.1 p.2) (offG_w w g hg p.1 p.2 hp0.1) (fun q hq => by rw [offG_len]; exact hp q (List.mem_cons_of_mem _ hq))
    rw [offG_len] at h1
    refine ⟨h1, h2, fun x y => ?_⟩
    show atN (withoutG (offG g p.1 p.2) L) x y = _
    rw [h3 x y, offG_at g p.1 p.2 x y hp0.1 (by rw [hw]; exact hp0.2)]
    by_cases c : (x, y) = (p.1, p.2)
    · have : (x, y) = p := c
      simp [this]
    · have : ¬ (x, y) = p := c
      simp [this]
theorem cnt_mk (w : Nat) (f : Nat → Nat → Bool) (ys : List Nat) : (ys.map fun y => (List.range w).map fun x => f x y).flatten.count true = (ys.map fun y => (List.range w).countP fun x => f x y).sum := by
  induction ys with
  | nil => rfl
  | cons y ys ih =>
    rw [List.map_cons, List.flatten_cons, List.count_append, ih, List.map_cons, List.sum_cons]
    congr 1
    rw [List.count_eq_countP, List.countP_map]
    congr 1
    funext x
    cases h : f x y <;> simp [h]
theorem cnt_row (f q : Nat → Bool) (y : Nat) (xs : List Nat) : xs.countP f = xs.countP (fun x => f x && !q x) + (xs.flatMap fun x => if (f x && q x) = true then [(x, y)] else []).length := by
  induction xs with
  | nil => rfl
  | cons x xs ih =>
    rw [List.countP_cons, List.countP_cons, List.flatMap_cons, List.length_append, ih]
    cases f x <;> cases q x <;> simp <;> omega
theorem cnt_split (w : Nat) (f q : Nat → Nat → Bool) (ys : List Nat) : (ys.map fun y => (List.range w).countP fun x => f x y).sum = (ys.map fun y => (List.range w).countP fun x => f x y && !q x y).sum + (ys.flatMap fun y => (List.range w).flatMap fun x => if (f x y && q x y) = true then [(x, y)] else []).length := by
  induction ys with
  | nil => rfl
  | cons y ys ih =>
    rw [List.map_cons, List.sum_cons, List.map_cons, List.sum_cons, List.flatMap_cons, List.length_append, ih, cnt_row (fun x => f x y) (fun x => q x y) y (List.range w)]
    omega
theorem cnt_le (w : Nat) (g : List (List Bool)) (h : IsG w g) : cntG g ≤ 100 := Nat.le_trans List.count_le_length (flat_le w g h.1 h.2.1 h.2.2)
theorem flat_get (w : Nat) (g : List (List Bool)) (h : IsG w g) (j : Nat) (hj : j < w * g.length) : g.flatten[j]? = some (atN g (j % w) (j / w)) := by
  have hw : 0 < w := h.1.1
  have hx : j % w < w := Nat.mod_lt _ hw
  have hy : j / w < g.length := Nat.div_lt_of_lt_mul hj
  have e := flat_slice w g h.2.2 (j / w) hy
  have hl := h.2.2 _ (List.getElem_mem hy)
  have e2 : g[j / w][j % w]? = g.flatten[j]? := by
    rw [← e, List.getElem?_drop, List.getElem?_take, if_pos (by omega), Nat.div_add_mod]
  rw [← e2, List.getElem?_eq_getElem (by omega), atN_get g _ _ hy (by omega)]
theorem len_flatMap_le {α β : Type} (f : α → List β) (c : Nat) (l : List α) (h : ∀ a ∈ l, (f a).length ≤ c) : (l.flatMap f).length ≤ c * l.length := by
  induction l with
  | nil => simp
  | cons a l ih =>
    have h1 := h a (by simp)
    have h2 := ih (fun b hb => h b (List.mem_cons_of_mem _ hb))
    rw [List.flatMap_cons, List.length_append, List.length_cons, Nat.mul_succ]
    omega
def toI (p : Nat × Nat) : List Int := [(p.1 : Int), (p.2 : Int)]
def cellS (g : List (List Bool)) (q : Nat → Nat → Bool) (y x : Nat) : List (Nat × Nat) := if (atN g x y && q x y) = true then [(x, y)] else []
theorem cellS_len (g : List (List Bool)) (q : Nat → Nat → Bool) (y x : Nat) : (cellS g q y x).length ≤ 1 := by unfold cellS; split <;> simp
theorem spots_l1 (w : Nat) (g : List (List Bool)) (h : IsG w g) (p : Int → Int → Option Bool) (q : Nat → Nat → Bool) (hp : ∀ x y : Nat, x < w → y < g.length → p (x : Int) (y : Int) = some (q x y)) (y : Nat) (hy : y < g.length) (acc : List (List Int)) (ha : acc.length ≤ 1000) (R : List (List Int))
    (hE : Ev (fun k => impl_spots.l0 p k (acc ++ ((List.range w).flatMap (cellS g q y)).map toI) (g.map rowOf) (g.length : Int) (wrap64 ((y : Int) + 1))) R) (d : Nat) : ∀ x : Nat, x + d = w →
    Ev (fun k => impl_spots.l1 p k (acc ++ ((List.range x).flatMap (cellS g q y)).map toI) (y : Int) (rowOf g[y]) (g.map rowOf) (g.length : Int) (y : Int) ((rowOf g[y]).size : Int) (x : Int)) R := by
  have hl := h.2.2 _ (List.getElem_mem hy)
  have hw := h.1
  have hsz := rowOf_size g[y]
  induction d with
  | zero =>
    intro x hx
    obtain rfl : x = w := by omega
    refine Ev.step (fun k => rfl) ?_
    simp only [impl_spots.l1]
    exact ev_else (by omega) hE
  | succ d ih =>
    intro x hx
    have hb := bt_row g[y] x (by omega)
    have hat := atN_get g x y hy (by omega)
    have hn := ih (x + 1) (by omega)
    have hll := len_flatMap_le (cellS g q y) 1 (List.range x) (fun a _ => cellS_len g q y a)
    rw [List.length_range] at hll
    rw [List.range_succ, List.flatMap_append, List.flatMap_cons, List.flatMap_nil, List.append_nil, List.map_append, ← List.append_assoc] at hn
    refine Ev.step (fun k => rfl) ?_
    simp only [impl_spots.l1]
    rw [w64s (j := x) (by omega)]
    refine ev_if (by omega) (ev_if (by omega) (ev_if (by omega) ?_))
    cases hg : g[y][x] with
    | false =>
      rw [hg] at hb hat
      have hc : cellS g q y x = [] := by unfold cellS; rw [hat]; rfl
      rw [hc, List.map_nil, List.append_nil] at hn
      exact ev_else (by simpa using hb) hn
    | true =>
      rw [hg] at hb hat
      refine ev_if (by simpa using hb) (ev_bind (hp x y (by omega) hy) ?_)
      cases hq : q x y with
      | true =>
        have hc : cellS g q y x = [(x, y)] := by unfold cellS; rw [hat, hq]; rfl
        rw [hc] at hn
        exact ev_if rfl (ev_if (by rw [List.length_append, List.length_map]; omega) hn)
      | false =>
        have hc : cellS g q y x = [] := by unfold cellS; rw [hat, hq]; rfl
        rw [hc, List.map_nil, List.append_nil] at hn
        exact ev_else (by simp) hn
theorem spots_l0 (w : Nat) (g : List (List Bool)) (h : IsG w g) (p : Int → Int → Option Bool) (q : Nat → Nat → Bool) (hp : ∀ x y : Nat, x < w → y < g.length → p (x : Int) (y : Int) = some (q x y)) (d : Nat) : ∀ y : Nat, y + d = g.length →
    Ev (fun k => impl_spots.l0 p k (((List.range y).flatMap fun b => (List.range w).flatMap (cellS g q b)).map toI) (g.map rowOf) (g.length : Int) (y : Int)) ((spotsG w g q).map toI) := by
  have hw := h.1
  have hgl := h.2.1
  induction d with
  | zero =>
    intro y hy
    obtain rfl : y = g.length := by omega
    refine Ev.step (fun k => rfl) ?_
    simp only [impl_spots.l0]
    exact ev_else (by omega) (Ev.now _)
  | succ d ih =>
    intro y hy
    have hyl : y < g.length := by omega
    have hn := ih (y + 1) (by omega)
    have hlen := len_flatMap_le (fun b => (List.range w).flatMap (cellS g q b)) 10 (List.range y) (fun b _ => by
      have := len_flatMap_le (cellS g q b) 1 (List.range w) (fun a _ => cellS_len g q b a)
      rw [List.length_range] at this
      omega)
    rw [List.length_range] at hlen
    rw [List.range_succ, List.flatMap_append, List.flatMap_cons, List.flatMap_nil, List.append_nil, List.map_append] at hn
    refine Ev.step (fun k => rfl) ?_
    simp only [impl_spots.l0]
    rw [rd_row g y hyl]
    have h2 := spots_l1 w g h p q hp y hyl (((List.range y).flatMap fun b => (List.range w).flatMap (cellS g q b)).map toI) (by rw [List.length_map]; omega) _ (by rw [w64s (j := y) (by omega)]; exact hn) w 0 (by omega)
    rw [List.range_zero, List.flatMap_nil, List.map_nil, List.append_nil] at h2
    exact ev_if (by omega) (ev_if (by omega) (ev_if (by rw [List.length_map]; omega) h2))
theorem spots_ev (w : Nat) (g : List (List Bool)) (h : IsG w g) (p : Int → Int → Option Bool) (q : Nat → Nat → Bool) (hp : ∀ x y : Nat, x < w → y < g.length → p (x : Int) (y : Int) = some (q x y)) (a : Int) :
    Ev (fun k => impl_spots.f p k (g.map rowOf) a) ((spotsG w g q).map toI) := by
  unfold impl_spots.f
  rw [List.length_map]
  exact spots_l0 w g h p q hp g.length 0 (by omega)
theorem clone_eq (l : List ByteArray) (h : l.length ≤ 1048576) : slices_Clone_string_string.f l = some l := by
  unfold slices_Clone_string_string.f
  rw [if_pos h]
theorem put_eq (w : Nat) (rows : List (List Bool)) (hw : 1 ≤ w ∧ w ≤ 10) (hn : 1 ≤ rows.length ∧ rows.length ≤ 10) (hr : ∀ r ∈ rows, r.length = w) (x y : Nat) (hy : y < rows.length) (hx : x < w) : impl_put.f (rows.map rowOf) (x : Int) (y : Int) 46 = some ((offG rows x y).map rowOf) := by
  have h2 : rows[y].length = w := hr _ (List.getElem_mem hy)
  unfold impl_put.f
  rw [rd_row rows y hy, rowOf_size, if_pos ⟨by rw [List.length_map]; omega, by omega, by rw [List.length_map]; omega, by omega, by omega, by omega⟩]
  congr 1
  unfold putAt offG
  rw [rd_row rows y hy, rowOf_size, Int.toNat_natCast, Int.toNat_natCast, show ((x : Int) + 1).toNat = x + 1 by omega, rowOf_off _ x (by omega), List.map_set, List.getD_eq_getElem?_getD, List.getElem?_eq_getElem hy]
  rfl
theorem off_is (w : Nat) (g : List (List Bool)) (h : IsG w g) (x y : Nat) (hy : y < g.length) : IsG w (offG g x y) := ⟨h.1, by rw [offG_len]; exact h.2.1, offG_w w g h.2.2 x y hy⟩
theorem rdL3_nat (xs : List (List Int)) (j : Nat) (h : j < xs.length) : rd_L3 xs (j : Int) = xs[j] := by
  simp [rd_L3, List.getD_eq_getElem?_getD, List.getElem?_eq_getElem h]
theorem without_l0 (w : Nat) (L : List (Nat × Nat)) (hL : L.length ≤ 1000) (n : Nat) (d : Nat) : ∀ (j : Nat) (g : List (List Bool)), j + d = L.length → IsG w g → g.length = n → (∀ p ∈ L, p.2 < n ∧ p.1 < w) →
    Ev (fun k => impl_without.l0 k (g.map rowOf) (L.map toI) (L.length : Int) (j : Int)) ((withoutG g (L.drop j)).map rowOf) := by
  induction d with
  | zero =>
    intro j g hj h hgn hp
    refine Ev.step (fun k => rfl) ?_
    simp only [impl_without.l0]
    rw [List.drop_of_length_le (by omega)]
    exact ev_else (by omega) (Ev.now _)
  | succ d ih =>
    intro j g hj h hgn hp
    have hl : j < L.length := by omega
    have hpj := hp _ (List.getElem_mem hl)
    have hn := ih (j + 1) (offG g L[j].1 L[j].2) (by omega) (off_is w g h _ _ (by omega)) (by rw [offG_len]; exact hgn) hp
    rw [List.drop_eq_getElem_cons hl]
    have e : rd_L3 (L.map toI) (j : Int) = [(L[j].1 : Int), (L[j].2 : Int)] := by
      rw [rdL3_nat _ j (by rw [List.length_map]; exact hl), List.getElem_map]; rfl
    refine Ev.step (fun k => rfl) ?_
    simp only [impl_without.l0]
    rw [e, w64s (by omega)]
    refine ev_if (by omega) (ev_if (by omega) (ev_if (by rw [List.length_map]; omega) (ev_if (by show (0 : Int) < 2; omega) (ev_if (by show (1 : Int) < 2; omega) (ev_bind (put_eq w g h.1 h.2.1 h.2.2 L[j].1 L[j].2 (by omega) (by omega)) hn)))))
theorem without_ev (w : Nat) (g : List (List Bool)) (h : IsG w g) (L : List (Nat × Nat)) (hL : L.length ≤ 1000) (hp : ∀ p ∈ L, p.2 < g.length ∧ p.1 < w) : Ev (fun k => impl_without.f k (g.map rowOf) (L.map toI)) ((withoutG g L).map rowOf) := by
  have hgl := h.2.1
  unfold impl_without.f
  refine ev_bind (clone_eq _ (by rw [List.length_map]; omega)) ?_
  rw [List.length_map]
  exact without_l0 w L hL g.length L.length 0 g (by omega) h rfl hp
theorem has_eq (w : Nat) (rows : List (List Bool)) (hw : 1 ≤ w ∧ w ≤ 10) (hn : 1 ≤ rows.length ∧ rows.length ≤ 10) (hr : ∀ r ∈ rows, r.length = w) (x y : Int) : impl_has.f (rows.map rowOf) x y = some (atG w rows x y) := by
  unfold impl_has.f
  simp only [within_eq, Option.bind_some, List.length_map]
  rw [rd_row0 w rows hn.1 hr, w64 (x := (rows.length : Int) - 1) (by omega) (by omega), w64 (x := (w : Int) - 1) (by omega) (by omega)]
  by_cases c : 0 ≤ y ∧ y ≤ (rows.length : Int) - 1
  · rw [if_pos (decide_eq_true c), if_pos (by omega)]
    by_cases c2 : 0 ≤ x ∧ x ≤ (w : Int) - 1
    · rw [if_pos (decide_eq_true c2)]
      obtain ⟨j, rfl⟩ := Int.eq_ofNat_of_zero_le c.1
      obtain ⟨i, rfl⟩ := Int.eq_ofNat_of_zero_le c2.1
      have hj : j < rows.length := by omega
      have hl := hr _ (List.getElem_mem hj)
      rw [rd_row rows j hj, rowOf_size, hl, if_pos (by omega), if_pos (by omega), if_pos (by omega), if_pos (by omega), bt_row _ i (by omega), atG_nat w rows hr i j hj (by omega)]
    · rw [if_neg (by rw [decide_eq_false c2]; simp)]
      unfold atG
      rw [if_neg (fun h => c2 h.2)]
  · rw [if_neg (by rw [decide_eq_false c]; simp)]
    unfold atG
    rw [if_neg (fun h => c h.1)]

/-! ### The sun's way over a tablet -/
/-- A side's lines: from a line and a step to a place, and back. -/
structure SunOK (w n : Nat) (d : Int × Int) (L M : Nat) (P : Nat → Nat → Nat × Nat) (li po : Nat → Nat → Nat) : Prop where
  inn : ∀ i j, i < L → j < M → (P i j).1 < w ∧ (P i j).2 < n
  out : ∀ x y, x < w → y < n → li x y < L ∧ po x y < M ∧ P (li x y) (po x y) = (x, y)
  back : ∀ i j, i < L → j < M → li (P i j).1 (P i j).2 = i ∧ po (P i j).1 (P i j).2 = j
  next : ∀ i j, i < L → j + 1 < M → ((P i (j + 1)).1 : Int) + d.1 = ((P i j).1 : Int) ∧ ((P i (j + 1)).2 : Int) + d.2 = ((P i j).2 : Int)
  first : ∀ i, i < L → 0 < M → ((P i 0).1 : Int) + d.1 < 0 ∨ (w : Int) ≤ ((P i 0).1 : Int) + d.1 ∨ ((P i 0).2 : Int) + d.2 < 0 ∨ (n : Int) ≤ ((P i 0).2 : Int) + d.2
  small : (-1 ≤ d.1 ∧ d.1 ≤ 1) ∧ (-1 ≤ d.2 ∧ d.2 ≤ 1)
  dims : L ≤ 10 ∧ M ≤ 10
/-- Nothing lies between a place and the sun. -/
def clr (g : List (List Bool)) (P : Nat → Nat → Nat × Nat) (i : Nat) : Nat → Bool
  | 0 => true
  | j + 1 => clr g P i j && !atN g (P i j).1 (P i j).2
theorem clr_all (g : List (List Bool)) (P : Nat → Nat → Nat × Nat) (i j : Nat) (h : clr g P i j = true) : ∀ j', j' < j → atN g (P i j').1 (P i j').2 = false := by
  induction j with
  | zero => intro j' hj; exact absurd hj (Nat.not_lt_zero _)
  | succ j ih =>
    intro j' hj
    simp only [clr, Bool.and_eq_true, Bool.not_eq_true'] at h
    by_cases c : j' = j
    · subst c; exact h.2
    · exact ih h.1 j' (by omega)
theorem clr_not (g : List (List Bool)) (P : Nat → Nat → Nat × Nat) (i j' j : Nat) (hj : j' < j) (h : atN g (P i j').1 (P i j').2 = true) : clr g P i j = false := by
  cases c : clr g P i j with
  | false => rfl
  | true => rw [clr_all g P i j c j' hj] at h; cases h
theorem clr_first (g : List (List Bool)) (P : Nat → Nat → Nat × Nat) (i j : Nat) : clr g P i (j + 1) = false → ∃ j', j' ≤ j ∧ clr g P i j' = true ∧ atN g (P i j').1 (P i j').2 = true := by
  induction j with
  | zero =>
    intro h
    simp only [clr, Bool.true_and, Bool.not_eq_false'] at h
    exact ⟨0, Nat.le_refl _, rfl, h⟩
  | succ j ih =>
    intro h
    cases c : clr g P i (j + 1) with
    | false =>
      obtain ⟨j', h1, h2, h3⟩ := ih c
      exact ⟨j', by omega, h2, h3⟩
    | true =>
      have e : clr g P i (j + 1 + 1) = (clr g P i (j + 1) && !atN g (P i (j + 1)).1 (P i (j + 1)).2) := rfl
      rw [e, c, Bool.true_and, Bool.not_eq_false'] at h
      exact ⟨j + 1, Nat.le_refl _, c, h⟩
/-- A tablet behind so many lines of an hour of sun. -/
def sunG (w : Nat) (g : List (List Bool)) (P : Nat → Nat → Nat × Nat) (li po : Nat → Nat → Nat) (i : Nat) : List (List Bool) :=
  mkG w g.length fun x y => atN g x y && !(decide (li x y < i) && clr g P (li x y) (po x y))
theorem sunG_len (w : Nat) (g : List (List Bool)) (P : Nat → Nat → Nat × Nat) (li po : Nat → Nat → Nat) (i : Nat) : (sunG w g P li po i).length = g.length := mkG_len _ _ _
theorem sunG_is (w : Nat) (g : List (List Bool)) (h : IsG w g) (P : Nat → Nat → Nat × Nat) (li po : Nat → Nat → Nat) (i : Nat) : IsG w (sunG w g P li po i) := ⟨h.1, by rw [sunG_len]; exact h.2.1, mkG_w _ _ _⟩
theorem sunG_at (w : Nat) (g : List (List Bool)) (P : Nat → Nat → Nat × Nat) (li po : Nat → Nat → Nat) (i x y : Nat) (hx : x < w) (hy : y < g.length) : atN (sunG w g P li po i) x y = (atN g x y && !(decide (li x y < i) && clr g P (li x y) (po x y))) := mkG_at _ _ _ x y hx hy
theorem sunG_zero (w : Nat) (g : List (List Bool)) (h : IsG w g) (P : Nat → Nat → Nat × Nat) (li po : Nat → Nat → Nat) : sunG w g P li po 0 = g := by
  refine g_ext w _ _ (mkG_w _ _ _) h.2.2 (sunG_len _ _ _ _ _ _) (fun x y hx hy => ?_)
  rw [sunG_len] at hy
  rw [sunG_at w g P li po 0 x y hx hy, decide_eq_false (Nat.not_lt_zero _)]
  simp
theorem sunG_skip {w : Nat} {g : List (List Bool)} {d : Int × Int} {L M : Nat} {P : Nat → Nat → Nat × Nat} {li po : Nat → Nat → Nat} (hS : SunOK w g.length d L M P li po) (i : Nat) (hc : clr g P i M = true) : sunG w g P li po (i + 1) = sunG w g P li po i := by
  refine g_ext w _ _ (mkG_w _ _ _) (mkG_w _ _ _) (by rw [sunG_len, sunG_len]) (fun x y hx hy => ?_)
  rw [sunG_len] at hy
  rw [sunG_at w g P li po _ x y hx hy, sunG_at w g P li po _ x y hx hy]
  obtain ⟨h1, h2, h3⟩ := hS.out x y hx hy
  by_cases c : li x y = i
  · have := clr_all g P i M hc (po x y) h2
    rw [← c, h3] at this
    rw [this]; rfl
  · rw [show decide (li x y < i + 1) = decide (li x y < i) by congr 1; exact propext ⟨fun h => by omega, fun h => by omega⟩]
theorem sunG_take {w : Nat} {g : List (List Bool)} (h : IsG w g) {d : Int × Int} {L M : Nat} {P : Nat → Nat → Nat × Nat} {li po : Nat → Nat → Nat} (hS : SunOK w g.length d L M P li po) (i j : Nat) (hi : i < L) (hj : j < M) (hc : clr g P i j = true) (ha : atN g (P i j).1 (P i j).2 = true) :
    offG (sunG w g P li po i) (P i j).1 (P i j).2 = sunG w g P li po (i + 1) := by
  have hG := sunG_is w g h P li po i
  obtain ⟨p1, p2⟩ := hS.inn i j hi hj
  have hy0 : (P i j).2 < (sunG w g P li po i).length := by rw [sunG_len]; exact p2
  refine g_ext w _ _ (offG_w w _ hG.2.2 _ _ hy0) (mkG_w _ _ _) (by rw [offG_len, sunG_len, sunG_len]) (fun x y hx hy => ?_)
  rw [offG_len, sunG_len] at hy
  rw [offG_at _ _ _ x y hy0 (by rw [List.getD_eq_getElem?_getD, List.getElem?_eq_getElem hy0]; show (P i j).1 < (sunG w g P li po i)[(P i j).2].length; rw [hG.2.2 _ (List.getElem_mem hy0)]; exact p1), sunG_at w g P li po _ x y hx hy, sunG_at w g P li po _ x y hx hy]
  obtain ⟨h1, h2, h3⟩ := hS.out x y hx hy
  obtain ⟨b1, b2⟩ := hS.back i j hi hj
  by_cases c : (x, y) = ((P i j).1, (P i j).2)
  · rw [decide_eq_true c]
    simp only [Prod.mk.injEq] at c
    rw [c.1, c.2, b1, b2, hc, decide_eq_true (Nat.lt_succ_self i)]
    simp
  · rw [decide_eq_false c, Bool.not_false, Bool.and_true]
    by_cases c2 : li x y = i
    · rw [decide_eq_false (show ¬ li x y < i by omega), decide_eq_true (show li x y < i + 1 by omega), Bool.false_and, Bool.true_and, Bool.not_false, Bool.and_true]
      have hne : po x y ≠ j := by
        intro e
        rw [c2, e] at h3
        exact c h3.symm
      by_cases c3 : po x y < j
      · have := clr_all g P i j hc (po x y) c3
        rw [← c2, h3] at this
        rw [this]; rfl
      · rw [c2, clr_not g P i j (po x y) (by omega) ha]
        simp
    · rw [show decide (li x y < i + 1) = decide (li x y < i) by congr 1; exact propext ⟨fun h => by omega, fun h => by omega⟩]
/-- What the program asks of a square. -/
def sunQ (g : List (List Bool)) (P : Nat → Nat → Nat × Nat) (li po : Nat → Nat → Nat) (x y : Nat) : Bool := clr g P (li x y) (po x y)
theorem spots_in (w : Nat) (g : List (List Bool)) (q : Nat → Nat → Bool) : ∀ p ∈ spotsG w g q, p.2 < g.length ∧ p.1 < w := by
  rintro ⟨x, y⟩ hp
  have := (mem_spots w g _ x y).1 hp
  exact ⟨this.1, this.2.1⟩
theorem without_sun {w : Nat} {g : List (List Bool)} (h : IsG w g) {d : Int × Int} {L M : Nat} {P : Nat → Nat → Nat × Nat} {li po : Nat → Nat → Nat} (hS : SunOK w g.length d L M P li po) : withoutG g (spotsG w g (sunQ g P li po)) = sunG w g P li po L := by
  obtain ⟨h1, h2, h3⟩ := without_keeps w (spotsG w g (sunQ g P li po)) g h.2.2 (spots_in w g _)
  refine g_ext w _ _ h2 (mkG_w _ _ _) (by rw [h1, sunG_len]) (fun x y hx hy => ?_)
  rw [h1] at hy
  rw [h3 x y, sunG_at w g P li po L x y hx hy, decide_eq_true (hS.out x y hx hy).1, Bool.true_and]
  cases ha : atN g x y with
  | false => rfl
  | true =>
    rw [Bool.true_and, Bool.true_and]
    congr 1
    rw [Bool.eq_iff_iff, decide_eq_true_eq, mem_spots]
    exact ⟨fun h => h.2.2.2, fun h => ⟨hy, hx, ha, h⟩⟩
theorem cnt_sun {w : Nat} {g : List (List Bool)} (h : IsG w g) {d : Int × Int} {L M : Nat} {P : Nat → Nat → Nat × Nat} {li po : Nat → Nat → Nat} (hS : SunOK w g.length d L M P li po) : cntG g = cntG (sunG w g P li po L) + (spotsG w g (sunQ g P li po)).length := by
  have e : cntG g = ((List.range g.length).map fun y => (List.range w).countP fun x => atN g x y).sum := by
    rw [← cnt_mk w (atN g)]
    unfold cntG
    conv => lhs; rw [← mkG_of w g h.2.2]
    rfl
  rw [e, cnt_split w (atN g) (sunQ g P li po)]
  congr 1
  have e2 : sunG w g P li po L = mkG w g.length (fun x y => atN g x y && !sunQ g P li po x y) := by
    refine g_ext w _ _ (mkG_w _ _ _) (mkG_w _ _ _) (by rw [mkG_len, sunG_len]) (fun x y hx hy => ?_)
    rw [sunG_len] at hy
    rw [sunG_at w g P li po L x y hx hy, mkG_at _ _ _ x y hx hy, decide_eq_true (hS.out x y hx hy).1, Bool.true_and]
    rfl
  rw [e2]
  exact (cnt_mk w (fun x y => atN g x y && !sunQ g P li po x y) (List.range g.length)).symm
theorem cnt_pos {w : Nat} {g : List (List Bool)} (h : IsG w g) (hc : 0 < cntG g) : ∃ x y, x < w ∧ y < g.length ∧ atN g x y = true := by
  unfold cntG at hc
  obtain ⟨r, hr, ht⟩ := List.mem_flatten.1 (List.count_pos_iff.1 hc)
  obtain ⟨y, hy, rfl⟩ := List.getElem_of_mem hr
  obtain ⟨x, hx, he⟩ := List.getElem_of_mem ht
  have hw := h.2.2 _ (List.getElem_mem hy)
  exact ⟨x, y, by omega, hy, by rw [atN_get g x y hy hx]; exact he⟩
theorem sun_less {w : Nat} {g : List (List Bool)} (h : IsG w g) {d : Int × Int} {L M : Nat} {P : Nat → Nat → Nat × Nat} {li po : Nat → Nat → Nat} (hS : SunOK w g.length d L M P li po) (hc : 0 < cntG g) : cntG (sunG w g P li po L) < cntG g := by
  have hsum := cnt_sun h hS
  obtain ⟨x, y, hx, hy, ha⟩ := cnt_pos h hc
  obtain ⟨h1, h2, h3⟩ := hS.out x y hx hy
  have hn : clr g P (li x y) (po x y + 1) = false := by
    simp only [clr]
    rw [h3, ha]
    simp
  obtain ⟨j', j1, j2, j3⟩ := clr_first g P (li x y) (po x y) hn
  have hin := hS.inn (li x y) j' h1 (by omega)
  have hb := hS.back (li x y) j' h1 (by omega)
  have hm : ((P (li x y) j').1, (P (li x y) j').2) ∈ spotsG w g (sunQ g P li po) := by
    rw [mem_spots]
    refine ⟨hin.2, hin.1, j3, ?_⟩
    unfold sunQ
    rw [hb.1, hb.2]
    exact j2
  have := List.length_pos_of_mem hm
  omega
/-! ### What the program asks -/
theorem ray_eq {w : Nat} {g : List (List Bool)} (h : IsG w g) {d : Int × Int} {L M : Nat} {P : Nat → Nat → Nat × Nat} {li po : Nat → Nat → Nat} (hS : SunOK w g.length d L M P li po) (i : Nat) (hi : i < L) : ∀ j k, j < M → j + 2 ≤ k → rayF (g.map rowOf) d k ((P i j).1 : Int) ((P i j).2 : Int) = some (clr g P i j) := by
  have hw := h.1
  have hg := h.2.1
  have hs := hS.small
  have e0 : wrap64 ((((rdOf ByteArray.empty (g.map rowOf) 0).size : Nat) : Int) - 1) = (w : Int) - 1 := by rw [rd_row0 w g hg.1 h.2.2, w64 (by omega) (by omega)]
  have e1 : wrap64 (((g.map rowOf).length : Int) - 1) = (g.length : Int) - 1 := by rw [List.length_map, w64 (by omega) (by omega)]
  intro j
  induction j with
  | zero =>
    intro k hj hk
    obtain ⟨k, rfl⟩ : ∃ k', k = k' + 2 := ⟨k - 2, by omega⟩
    obtain ⟨p1, p2⟩ := hS.inn i 0 hi hj
    have hf := hS.first i hi hj
    have a0 : atG w g (((P i 0).1 : Int) + d.1) (((P i 0).2 : Int) + d.2) = false := by
      unfold atG
      rw [if_neg (by omega)]
    simp only [rayF, within_eq, Option.bind_some, e0, e1, has_eq w g h.1 h.2.1 h.2.2]
    rw [w64 (x := ((P i 0).1 : Int) + d.1) (by omega) (by omega), w64 (x := ((P i 0).2 : Int) + d.2) (by omega) (by omega), a0, if_pos (decide_eq_true (by omega)), if_pos (decide_eq_true (by omega)), if_neg (by simp)]
    by_cases c : 0 ≤ ((P i 0).1 : Int) + d.1 ∧ ((P i 0).1 : Int) + d.1 ≤ (w : Int) - 1
    · rw [if_pos (decide_eq_true c), if_neg (by rw [decide_eq_false (by omega)]; simp)]; rfl
    · rw [if_neg (by rw [decide_eq_false c]; simp)]; rfl
  | succ j ih =>
    intro k hj hk
    obtain ⟨k, rfl⟩ : ∃ k', k = k' + 1 := ⟨k - 1, by omega⟩
    obtain ⟨p1, p2⟩ := hS.inn i (j + 1) hi hj
    obtain ⟨q1, q2⟩ := hS.inn i j hi (by omega)
    obtain ⟨n1, n2⟩ := hS.next i j hi hj
    have hn := ih k (by omega) (by omega)
    simp only [rayF, within_eq, Option.bind_some, e0, e1, has_eq w g h.1 h.2.1 h.2.2]
    rw [n1, n2, w64 (x := ((P i j).1 : Int)) (by omega) (by omega), w64 (x := ((P i j).2 : Int)) (by omega) (by omega), atG_atN w g _ _ q1 q2, if_pos (decide_eq_true (by omega)), if_pos (decide_eq_true (by omega)), hn]
    simp only [clr]
    cases atN g (P i j).1 (P i j).2 with
    | true => rw [if_pos rfl]; simp
    | false => rw [if_neg (by simp)]; simp
theorem shone_ev {w : Nat} {g : List (List Bool)} (h : IsG w g) {d : Int × Int} {L M : Nat} {P : Nat → Nat → Nat × Nat} {li po : Nat → Nat → Nat} (hS : SunOK w g.length d L M P li po) (s : ByteArray) (hd : wayOf s = some d) : Ev (fun k => impl_shone.f k (g.map rowOf) s) ((sunG w g P li po L).map rowOf) := by
  have hg := h.2.1
  have hdm := hS.dims
  unfold impl_shone.f
  refine ev_if (by rw [List.length_map]; omega) (ev_bind hd (Ev.bind (spots_ev w g h _ (sunQ g P li po) (fun x y hx hy => ?_) 0) ?_))
  · obtain ⟨h1, h2, h3⟩ := hS.out x y hx hy
    have := ray_eq h hS (li x y) h1 (po x y) 12 h2 (by omega)
    rw [h3] at this
    exact this
  · rw [← without_sun h hS]
    have := cnt_sun h hS
    have := cnt_le w g h
    exact without_ev w g h _ (by omega) (spots_in w g _)
/-! ### What the reference does -/
theorem sun_tail (bs : List Bool) (A : Nat → List Bool → Option (List ByteArray)) (B : Nat → Option (List ByteArray)) (idx : Int) (p : Nat) (R : List ByteArray) (e : idx = (p : Int)) (hp : p < bs.length) (h : if bs.getD p false = true then Ev (fun k => A k (bs.set p false)) R else Ev B R) :
    Ev (fun k => if 0 ≤ idx then (if idx < (bs.length : Int) then (if rdOf false bs idx = true then A k (bs.set (idx : Int).toNat false) else B k) else none) else none) R := by
  subst e
  rw [Int.toNat_natCast, rdOf_nat _ _ p hp]
  refine ev_if (by omega) (ev_if (by omega) ?_)
  rw [List.getD_eq_getElem?_getD, List.getElem?_eq_getElem hp] at h
  cases c : bs[p] with
  | true => rw [c] at h; exact ev_if rfl h
  | false => rw [c] at h; exact ev_else (by simp) h
def SunStep (w n : Nat) (s : ByteArray) (L M : Nat) (P : Nat → Nat → Nat × Nat) : Prop := ∀ (bs : List Bool) (i j : Nat) (R : List ByteArray), bs.length = w * n → i < L → j < M →
  (if bs.getD (w * (P i j).2 + (P i j).1) false = true then Ev (fun k => spec_mlSun.l0 k s (bs.set (w * (P i j).2 + (P i j).1) false) (w : Int) (n : Int) (L : Int) (M : Int) (wrap64 ((i : Int) + 1))) R else Ev (fun k => spec_mlSun.l1 k s bs (w : Int) (n : Int) (L : Int) (M : Int) (i : Int) (wrap64 ((j : Int) + 1))) R) →
  Ev (fun k => spec_mlSun.l1 k s bs (w : Int) (n : Int) (L : Int) (M : Int) (i : Int) (j : Int)) R
def SunIn (w n : Nat) (s : ByteArray) (L M : Nat) : Prop := ∀ (bs : List Bool) (R : List ByteArray), Ev (fun k => spec_mlSun.l0 k s bs (w : Int) (n : Int) (L : Int) (M : Int) 0) R →
  Ev (fun k => if s.toList = ([108] : List UInt8) then (spec_mlSun.j0 k s bs (w : Int) (n : Int) (w : Int) (n : Int) true) else (spec_mlSun.j0 k s bs (w : Int) (n : Int) (w : Int) (n : Int) (s.toList == ([114] : List UInt8)))) R
theorem in_lt (w n x y : Nat) (hx : x < w) (hy : y < n) : w * y + x < w * n := by
  have : w * (y + 1) ≤ w * n := Nat.mul_le_mul_left _ hy
  rw [Nat.mul_succ] at this
  omega
theorem idx_eq (w n x y : Nat) (hw : w ≤ 10) (hn : n ≤ 10) (hx : x < w) (hy : y < n) : wrap64 (wrap64 ((y : Int) * (w : Int)) + (x : Int)) = ((w * y + x : Nat) : Int) := by
  have h1 := in_lt w n x y hx hy
  have h2 : w * n ≤ 10 * 10 := Nat.mul_le_mul hw hn
  rw [show (y : Int) * (w : Int) = ((w * y : Nat) : Int) by rw [Nat.mul_comm]; rfl]
  rw [w64 (x := ((w * y : Nat) : Int)) (by omega) (by omega), w64 (by omega) (by omega)]
  omega
theorem tl_one (b : UInt8) : (⟨#[b]⟩ : ByteArray).toList = [b] := by rw [ByteArray.toList_eq]
theorem sun_u (w n : Nat) (hw : 1 ≤ w ∧ w ≤ 10) (hn : 1 ≤ n ∧ n ≤ 10) : SunOK w n (0, -1) w n (fun i j => (i, j)) (fun x _ => x) (fun _ y => y) ∧ SunStep w n ⟨#[117]⟩ w n (fun i j => (i, j)) ∧ SunIn w n ⟨#[117]⟩ w n := by
  refine ⟨⟨fun i j hi hj => ⟨hi, hj⟩, fun x y hx hy => ⟨hx, hy, rfl⟩, fun i j _ _ => ⟨rfl, rfl⟩, fun i j _ _ => ⟨by simp, by simp; omega⟩, fun i _ _ => Or.inr (Or.inr (Or.inl (by simp))), by simp, by omega⟩, ?_, ?_⟩
  · intro bs i j R hb hi hj hE
    refine Ev.step (fun k => rfl) ?_
    simp only [spec_mlSun.l1, tl_one]
    refine ev_if (by omega) (ev_else (by decide) (ev_else (by decide) (ev_else (by decide) ?_)))
    exact sun_tail bs (fun k b => spec_mlSun.l0 k ⟨#[117]⟩ b (w : Int) (n : Int) (w : Int) (n : Int) (wrap64 ((i : Int) + 1))) _ _ _ R (idx_eq w n i j hw.2 hn.2 hi hj) (by rw [hb]; exact in_lt w n i j hi hj) hE
  · intro bs R hE
    simp only [tl_one]
    refine ev_else (by decide) (Ev.step (fun k => rfl) ?_)
    simp only [spec_mlSun.j0]
    refine ev_else (by decide) (Ev.step (fun k => rfl) ?_)
    simp only [spec_mlSun.j1]
    exact hE
theorem sun_d (w n : Nat) (hw : 1 ≤ w ∧ w ≤ 10) (hn : 1 ≤ n ∧ n ≤ 10) : SunOK w n (0, 1) w n (fun i j => (i, n - 1 - j)) (fun x _ => x) (fun _ y => n - 1 - y) ∧ SunStep w n ⟨#[100]⟩ w n (fun i j => (i, n - 1 - j)) ∧ SunIn w n ⟨#[100]⟩ w n := by
  refine ⟨⟨fun i j hi hj => ⟨hi, by show n - 1 - j < n; omega⟩, fun x y hx hy => ⟨hx, by show n - 1 - y < n; omega, by show (x, n - 1 - (n - 1 - y)) = (x, y); rw [show n - 1 - (n - 1 - y) = y by omega]⟩, fun i j _ hj => ⟨rfl, by show n - 1 - (n - 1 - j) = j; omega⟩, fun i j _ hj => ⟨by simp, by show ((n - 1 - (j + 1) : Nat) : Int) + 1 = ((n - 1 - j : Nat) : Int); omega⟩, fun i _ hj => Or.inr (Or.inr (Or.inr (by show (n : Int) ≤ ((n - 1 - 0 : Nat) : Int) + 1; omega))), by simp, by omega⟩, ?_, ?_⟩
  · intro bs i j R hb hi hj hE
    refine Ev.step (fun k => rfl) ?_
    simp only [spec_mlSun.l1, tl_one]
    refine ev_if (by omega) (ev_if (by decide) ?_)
    have e : wrap64 (wrap64 ((n : Int) - 1) - (j : Int)) = ((n - 1 - j : Nat) : Int) := by rw [w64 (x := (n : Int) - 1) (by omega) (by omega), w64 (by omega) (by omega)]; omega
    rw [e]
    exact sun_tail bs (fun k b => spec_mlSun.l0 k ⟨#[100]⟩ b (w : Int) (n : Int) (w : Int) (n : Int) (wrap64 ((i : Int) + 1))) _ _ _ R (idx_eq w n i (n - 1 - j) hw.2 hn.2 hi (by omega)) (by rw [hb]; exact in_lt w n i (n - 1 - j) hi (by omega)) hE
  · intro bs R hE
    simp only [tl_one]
    refine ev_else (by decide) (Ev.step (fun k => rfl) ?_)
    simp only [spec_mlSun.j0]
    refine ev_else (by decide) (Ev.step (fun k => rfl) ?_)
    simp only [spec_mlSun.j1]
    exact hE
theorem sun_l (w n : Nat) (hw : 1 ≤ w ∧ w ≤ 10) (hn : 1 ≤ n ∧ n ≤ 10) : SunOK w n (-1, 0) n w (fun i j => (j, i)) (fun _ y => y) (fun x _ => x) ∧ SunStep w n ⟨#[108]⟩ n w (fun i j => (j, i)) ∧ SunIn w n ⟨#[108]⟩ n w := by
  refine ⟨⟨fun i j hi hj => ⟨hj, hi⟩, fun x y hx hy => ⟨hy, hx, rfl⟩, fun i j _ _ => ⟨rfl, rfl⟩, fun i j _ _ => ⟨by simp; omega, by simp⟩, fun i _ _ => Or.inl (by simp), by simp, by omega⟩, ?_, ?_⟩
  · intro bs i j R hb hi hj hE
    refine Ev.step (fun k => rfl) ?_
    simp only [spec_mlSun.l1, tl_one]
    refine ev_if (by omega) (ev_else (by decide) (ev_if (by decide) ?_))
    exact sun_tail bs (fun k b => spec_mlSun.l0 k ⟨#[108]⟩ b (w : Int) (n : Int) (n : Int) (w : Int) (wrap64 ((i : Int) + 1))) _ _ _ R (idx_eq w n j i hw.2 hn.2 hj hi) (by rw [hb]; exact in_lt w n j i hj hi) hE
  · intro bs R hE
    simp only [tl_one]
    refine ev_if (by decide) (Ev.step (fun k => rfl) ?_)
    simp only [spec_mlSun.j0]
    refine ev_if (by decide) (Ev.step (fun k => rfl) ?_)
    simp only [spec_mlSun.j1]
    exact hE
theorem sun_r (w n : Nat) (hw : 1 ≤ w ∧ w ≤ 10) (hn : 1 ≤ n ∧ n ≤ 10) : SunOK w n (1, 0) n w (fun i j => (w - 1 - j, i)) (fun _ y => y) (fun x _ => w - 1 - x) ∧ SunStep w n ⟨#[114]⟩ n w (fun i j => (w - 1 - j, i)) ∧ SunIn w n ⟨#[114]⟩ n w := by
  refine ⟨⟨fun i j hi hj => ⟨by show w - 1 - j < w; omega, hi⟩, fun x y hx hy => ⟨hy, by show w - 1 - x < w; omega, by show (w - 1 - (w - 1 - x), y) = (x, y); rw [show w - 1 - (w - 1 - x) = x by omega]⟩, fun i j _ hj => ⟨rfl, by show w - 1 - (w - 1 - j) = j; omega⟩, fun i j _ hj => ⟨by show ((w - 1 - (j + 1) : Nat) : Int) + 1 = ((w - 1 - j : Nat) : Int); omega, by simp⟩, fun i _ hj => Or.inr (Or.inl (by show (w : Int) ≤ ((w - 1 - 0 : Nat) : Int) + 1; omega)), by simp, by omega⟩, ?_, ?_⟩
  · intro bs i j R hb hi hj hE
    refine Ev.step (fun k => rfl) ?_
    simp only [spec_mlSun.l1, tl_one]
    refine ev_if (by omega) (ev_else (by decide) (ev_else (by decide) (ev_if (by decide) ?_)))
    have e : wrap64 (wrap64 ((w : Int) - 1) - (j : Int)) = ((w - 1 - j : Nat) : Int) := by rw [w64 (x := (w : Int) - 1) (by omega) (by omega), w64 (by omega) (by omega)]; omega
    rw [e]
    exact sun_tail bs (fun k b => spec_mlSun.l0 k ⟨#[114]⟩ b (w : Int) (n : Int) (n : Int) (w : Int) (wrap64 ((i : Int) + 1))) _ _ _ R (idx_eq w n (w - 1 - j) i hw.2 hn.2 (by omega) hi) (by rw [hb]; exact in_lt w n (w - 1 - j) i (by omega) hi) hE
  · intro bs R hE
    simp only [tl_one]
    refine ev_else (by decide) (Ev.step (fun k => rfl) ?_)
    simp only [spec_mlSun.j0]
    refine ev_if (by decide) (Ev.step (fun k => rfl) ?_)
    simp only [spec_mlSun.j1]
    exact hE
theorem mlSun_l1 {w : Nat} {g : List (List Bool)} (h : IsG w g) {d : Int × Int} {L M : Nat} {P : Nat → Nat → Nat × Nat} {li po : Nat → Nat → Nat} (hS : SunOK w g.length d L M P li po) (s : ByteArray) (hT : SunStep w g.length s L M P) (R : List ByteArray) (i : Nat) (hi : i < L)
    (hE : Ev (fun k => spec_mlSun.l0 k s (sunG w g P li po (i + 1)).flatten (w : Int) (g.length : Int) (L : Int) (M : Int) (wrap64 ((i : Int) + 1))) R) (c : Nat) : ∀ j : Nat, j + c = M → clr g P i j = true →
    Ev (fun k => spec_mlSun.l1 k s (sunG w g P li po i).flatten (w : Int) (g.length : Int) (L : Int) (M : Int) (i : Int) (j : Int)) R := by
  have hG := sunG_is w g h P li po i
  have hd := hS.dims
  induction c with
  | zero =>
    intro j hj hc
    obtain rfl : j = M := by omega
    refine Ev.step (fun k => rfl) ?_
    simp only [spec_mlSun.l1]
    rw [← sunG_skip hS i hc]
    exact ev_else (by omega) hE
  | succ c ih =>
    intro j hj hc
    have hjM : j < M := by omega
    obtain ⟨p1, p2⟩ := hS.inn i j hi hjM
    have hb := hS.back i j hi hjM
    have hfl : (sunG w g P li po i).flatten.length = w * g.length := by rw [flat_len w _ hG.2.2, sunG_len]
    have hlt := in_lt w g.length _ _ p1 p2
    refine hT _ i j R hfl hi hjM ?_
    have hw0 : 0 < w := h.1.1
    have hat : (sunG w g P li po i).flatten.getD (w * (P i j).2 + (P i j).1) false = atN g (P i j).1 (P i j).2 := by
      have f := flat_get w (sunG w g P li po i) hG (w * (P i j).2 + (P i j).1) (by rw [sunG_len]; exact hlt)
      rw [Nat.mul_add_mod, Nat.mod_eq_of_lt p1, Nat.mul_add_div hw0, Nat.div_eq_of_lt p1, Nat.add_zero] at f
      rw [List.getD_eq_getElem?_getD, f]
      show atN (sunG w g P li po i) (P i j).1 (P i j).2 = _
      rw [sunG_at w g P li po i _ _ p1 p2, hb.1, decide_eq_false (Nat.lt_irrefl i)]
      simp
    rw [hat]
    cases ha : atN g (P i j).1 (P i j).2 with
    | true =>
      rw [if_pos rfl, flat_set w _ hG.2.2 _ _ (by rw [sunG_len]; exact p2) p1, sunG_take h hS i j hi hjM hc ha]
      exact hE
    | false =>
      rw [if_neg (by simp), w64s (by omega)]
      exact ih (j + 1) (by omega) (by simp only [clr]; rw [hc, ha]; rfl)
theorem mlSun_l0 {w : Nat} {g : List (List Bool)} (h : IsG w g) {d : Int × Int} {L M : Nat} {P : Nat → Nat → Nat × Nat} {li po : Nat → Nat → Nat} (hS : SunOK w g.length d L M P li po) (s : ByteArray) (hT : SunStep w g.length s L M P) (c : Nat) : ∀ i : Nat, i + c = L →
    Ev (fun k => spec_mlSun.l0 k s (sunG w g P li po i).flatten (w : Int) (g.length : Int) (L : Int) (M : Int) (i : Int)) ((sunG w g P li po L).map rowOf) := by
  have hd := hS.dims
  have hw := h.1
  have hg := h.2.1
  induction c with
  | zero =>
    intro i hi
    obtain rfl : i = L := by omega
    refine Ev.step (fun k => rfl) ?_
    simp only [spec_mlSun.l0]
    exact ev_else (by omega) (Ev.bind (mlOf_ev w (by omega) _ (by rw [sunG_len]; omega) (sunG_is w g h P li po i).2.2) (Ev.now _))
  | succ c ih =>
    intro i hi
    refine Ev.step (fun k => rfl) ?_
    simp only [spec_mlSun.l0]
    exact ev_if (by omega) (mlSun_l1 h hS s hT _ i (by omega) (by rw [w64s (by omega)]; exact ih (i + 1) (by omega)) M 0 (by omega) rfl)
theorem mlSun_ev {w : Nat} {g : List (List Bool)} (h : IsG w g) {d : Int × Int} {L M : Nat} {P : Nat → Nat → Nat × Nat} {li po : Nat → Nat → Nat} (hS : SunOK w g.length d L M P li po) (s : ByteArray) (hT : SunStep w g.length s L M P) (hI : SunIn w g.length s L M) : Ev (fun k => spec_mlSun.f k (g.map rowOf) s) ((sunG w g P li po L).map rowOf) := by
  have hg := h.2.1
  unfold spec_mlSun.f
  refine Ev.bind (mlIs_ev w g h.1 h.2.1 h.2.2) (ev_if (by rw [List.length_map]; omega) ?_)
  rw [rd_row0 w g hg.1 h.2.2, List.length_map]
  refine hI _ _ ?_
  have := mlSun_l0 h hS s hT L 0 (by omega)
  rw [sunG_zero w g h] at this
  exact this
/-! ### What is asked -/
def sideB (s : ByteArray) : Bool := s.data.toList == [117] || s.data.toList == [100] || s.data.toList == [108] || s.data.toList == [114]
theorem ba_of (s : ByteArray) (b : UInt8) (h : s.data.toList = [b]) : s = ⟨#[b]⟩ := by
  apply ByteArray.ext
  apply Array.toList_inj.mp
  exact h
theorem side_is (s : ByteArray) (h : sideB s = true) : s = ⟨#[117]⟩ ∨ s = ⟨#[100]⟩ ∨ s = ⟨#[108]⟩ ∨ s = ⟨#[114]⟩ := by
  unfold sideB at h
  simp only [Bool.or_eq_true, beq_iff_eq] at h
  rcases h with ((h | h) | h) | h
  · exact Or.inl (ba_of s _ h)
  · exact Or.inr (Or.inl (ba_of s _ h))
  · exact Or.inr (Or.inr (Or.inl (ba_of s _ h)))
  · exact Or.inr (Or.inr (Or.inr (ba_of s _ h)))
/-- An hour of sun from a side: one map of tablets, by the program and by the reference. -/
theorem sun_side (w n : Nat) (hw : 1 ≤ w ∧ w ≤ 10) (hn : 1 ≤ n ∧ n ≤ 10) (s : ByteArray) (h : sideB s = true) : ∃ (F : List (List Bool) → List (List Bool)), ∀ g, IsG w g → g.length = n → IsG w (F g) ∧ (F g).length = n ∧ (0 < cntG g → cntG (F g) < cntG g) ∧ Ev (fun k => spec_mlSun.f k (g.map rowOf) s) ((F g).map rowOf) ∧ Ev (fun k => impl_shone.f k (g.map rowOf) s) ((F g).map rowOf) := by
  have key : ∀ (d : Int × Int) (L M : Nat) (P : Nat → Nat → Nat × Nat) (li po : Nat → Nat → Nat), wayOf s = some d → (SunOK w n d L M P li po ∧ SunStep w n s L M P ∧ SunIn w n s L M) → ∃ (F : List (List Bool) → List (List Bool)), ∀ g, IsG w g → g.length = n → IsG w (F g) ∧ (F g).length = n ∧ (0 < cntG g → cntG (F g) < cntG g) ∧ Ev (fun k => spec_mlSun.f k (g.map rowOf) s) ((F g).map rowOf) ∧ Ev (fun k => impl_shone.f k (g.map rowOf) s) ((F g).map rowOf) := by
    intro d L M P li po hd hh
    refine ⟨fun g => sunG w g P li po L, fun g hg hl => ?_⟩
    subst hl
    obtain ⟨h1, h2, h3⟩ := hh
    exact ⟨sunG_is w g hg P li po L, sunG_len _ _ _ _ _ _, sun_less hg h1, mlSun_ev hg h1 s h2 h3, shone_ev hg h1 s hd⟩
  have n1 : (⟨#[100]⟩ : ByteArray) ≠ ⟨#[117]⟩ := by decide
  have n2 : (⟨#[108]⟩ : ByteArray) ≠ ⟨#[117]⟩ := by decide
  have n3 : (⟨#[108]⟩ : ByteArray) ≠ ⟨#[100]⟩ := by decide
  have n4 : (⟨#[114]⟩ : ByteArray) ≠ ⟨#[117]⟩ := by decide
  have n5 : (⟨#[114]⟩ : ByteArray) ≠ ⟨#[100]⟩ := by decide
  have n6 : (⟨#[114]⟩ : ByteArray) ≠ ⟨#[108]⟩ := by decide
  rcases side_is s h with rfl | rfl | rfl | rfl
  · exact key _ _ _ _ _ _ (by unfold wayOf; rw [if_pos rfl]) (sun_u w n hw hn)
  · exact key _ _ _ _ _ _ (by unfold wayOf; rw [if_neg n1, if_pos rfl]) (sun_d w n hw hn)
  · exact key _ _ _ _ _ _ (by unfold wayOf; rw [if_neg n2, if_neg n3, if_pos rfl]) (sun_l w n hw hn)
  · exact key _ _ _ _ _ _ (by unfold wayOf; rw [if_neg n4, if_neg n5, if_neg n6, if_pos rfl]) (sun_r w n hw hn)
theorem mlSide_ev (l : List ByteArray) (hl : l.length ≤ 1048576) (s : ByteArray) : Ev (fun k => spec_mlSide.f k l s) (good l && sideB s) := by
  unfold spec_mlSide.f
  refine Ev.bind (mlGood_ev l hl) ?_
  simp only [ByteArray.toList_eq]
  cases hg : good l with
  | false => exact ev_else (by simp) (Ev.now _)
  | true =>
    refine ev_if rfl ?_
    rw [Bool.true_and]
    unfold sideB
    by_cases c1 : s.data.toList = [117]
    · rw [c1]; exact ev_if rfl (Ev.now _)
    refine ev_else c1 ?_
    by_cases c2 : s.data.toList = [100]
    · rw [c2]; exact ev_if rfl (Ev.now _)
    refine ev_else c2 ?_
    by_cases c3 : s.data.toList = [108]
    · rw [c3]; exact ev_if rfl (Ev.now _)
    refine ev_else c3 ?_
    rw [beq_false_of_ne c1, beq_false_of_ne c2, beq_false_of_ne c3, Bool.false_or, Bool.false_or, Bool.false_or]
    exact Ev.now _
theorem isSun_eq (s : ByteArray) : impl_isSun.f s = some (sideB s) := by
  have hz := sz_list s
  unfold impl_isSun.f
  by_cases c : (s.size : Int) = 1
  · rw [if_pos c]
    obtain ⟨b, hb⟩ := List.length_eq_one_iff.1 (show s.data.toList.length = 1 by omega)
    unfold strings_Contains.f sideB
    rw [if_pos (by omega), hb, Option.bind_some]
    congr 1
    show decide (0 ≤ Lib.indexByte [117, 100, 108, 114] b) = _
    by_cases c1 : b = 117
    · subst c1; decide
    by_cases c2 : b = 100
    · subst c2; decide
    by_cases c3 : b = 108
    · subst c3; decide
    by_cases c4 : b = 114
    · subst c4; decide
    have k1 : (117 == b) = false := beq_false_of_ne (fun e => c1 e.symm)
    have k2 : (100 == b) = false := beq_false_of_ne (fun e => c2 e.symm)
    have k3 : (108 == b) = false := beq_false_of_ne (fun e => c3 e.symm)
    have k4 : (114 == b) = false := beq_false_of_ne (fun e => c4 e.symm)
    have e : Lib.indexByte [117, 100, 108, 114] b = -1 := by simp [Lib.indexByte, k1, k2, k3, k4]
    simp [e, c1, c2, c3, c4]
  · rw [if_neg c]
    congr 1
    unfold sideB
    have hne : ∀ b : UInt8, (s.data.toList == [b]) = false := fun b => beq_false_of_ne (fun e => by rw [e] at hz; simp at hz; omega)
    rw [hne, hne, hne, hne]; rfl

theorem hours_l0 (w n : Nat) (s : ByteArray) (F : List (List Bool) → List (List Bool)) (hF : ∀ g, IsG w g → g.length = n → IsG w (F g) ∧ (F g).length = n ∧ (0 < cntG g → cntG (F g) < cntG g) ∧ Ev (fun k => spec_mlSun.f k (g.map rowOf) s) ((F g).map rowOf) ∧ Ev (fun k => impl_shone.f k (g.map rowOf) s) ((F g).map rowOf)) (c : Nat) :
    ∀ (g : List (List Bool)) (t : Nat), IsG w g → g.length = n → cntG g ≤ c → t + c ≤ 1000 → ∃ q, Ev (fun k => spec_HoursBySun.l0 k s (t : Int) (g.map rowOf)) q ∧ Ev (fun k => impl_HoursBySun.l0 k (g.map rowOf) s (t : Int)) q := by
  induction c with
  | zero =>
    intro g t hg hl hc ht
    refine ⟨((t : Int), true), ?_, ?_⟩
    · refine Ev.step (fun k => rfl) ?_
      simp only [spec_HoursBySun.l0]
      exact Ev.bind (mlLeft_ev w g hg) (ev_else (by omega) (Ev.now _))
    · refine Ev.step (fun k => rfl) ?_
      simp only [impl_HoursBySun.l0]
      exact ev_bind (left_eq w g hg) (ev_else (by omega) (Ev.now _))
  | succ c ih =>
    intro g t hg hl hc ht
    by_cases c0 : 0 < cntG g
    · obtain ⟨h1, h2, h3, h4, h5⟩ := hF g hg hl
      obtain ⟨q, q1, q2⟩ := ih (F g) (t + 1) h1 h2 (by have := h3 c0; omega) (by omega)
      refine ⟨q, ?_, ?_⟩
      · refine Ev.step (fun k => rfl) ?_
        simp only [spec_HoursBySun.l0]
        rw [w64s (by omega)]
        exact Ev.bind (mlLeft_ev w g hg) (ev_if (by omega) (Ev.bind h4 q1))
      · refine Ev.step (fun k => rfl) ?_
        simp only [impl_HoursBySun.l0]
        rw [w64s (by omega)]
        exact ev_bind (left_eq w g hg) (ev_if (by omega) (Ev.bind h5 q2))
    · refine ⟨((t : Int), true), ?_, ?_⟩
      · refine Ev.step (fun k => rfl) ?_
        simp only [spec_HoursBySun.l0]
        exact Ev.bind (mlLeft_ev w g hg) (ev_else (by omega) (Ev.now _))
      · refine Ev.step (fun k => rfl) ?_
        simp only [impl_HoursBySun.l0]
        exact ev_bind (left_eq w g hg) (ev_else (by omega) (Ev.now _))
theorem hours_both (l : List ByteArray) (hl : l.length ≤ 1048576) (s : ByteArray) : ∃ q, Ev (fun k => spec_HoursBySun.f k l s) q ∧ Ev (fun k => impl_HoursBySun.f k l s) q := by
  unfold spec_HoursBySun.f impl_HoursBySun.f
  rw [isTablet_eq, isSun_eq]
  simp only [Option.bind_some]
  have ha := mlSide_ev l hl s
  cases hg : good l with
  | false =>
    rw [hg] at ha
    refine ⟨(0, false), Ev.bind ha (ev_else (by simp) (Ev.now _)), ev_else (by simp) (Ev.step (fun k => rfl) ?_)⟩
    simp only [impl_HoursBySun.j0]
    exact ev_if (by first | rfl | trivial) (Ev.now _)
  | true =>
    cases hs : sideB s with
    | false =>
      rw [hg, hs] at ha
      refine ⟨(0, false), Ev.bind ha (ev_else (by simp) (Ev.now _)), ev_if rfl (Ev.step (fun k => rfl) ?_)⟩
      simp only [impl_HoursBySun.j0]
      exact ev_if (by first | rfl | trivial) (Ev.now _)
    | true =>
      rw [hg, hs] at ha
      obtain ⟨w, g, rfl, hw, hn, hr⟩ := good_grid l hg
      obtain ⟨F, hF⟩ := sun_side w g.length hw hn s hs
      obtain ⟨q, q1, q2⟩ := hours_l0 w g.length s F hF 100 g 0 ⟨hw, hn, hr⟩ rfl (cnt_le w g ⟨hw, hn, hr⟩) (by omega)
      refine ⟨q, Ev.bind ha (ev_if rfl q1), ev_if rfl (Ev.step (fun k => rfl) ?_)⟩
      simp only [impl_HoursBySun.j0]
      exact ev_else (by simp) q2
theorem FnExactHoursBySun : laws_FnExactHoursBySun.Pure := by
  intro l s h1 _ h3 _
  apply Ev.rounds (r := true)
  unfold laws_FnExactHoursBySun.f
  by_cases c0 : (s.size : Int) > 1048576
  · exact ev_if c0 (Ev.now _)
  refine ev_else c0 ?_
  obtain ⟨r, hr, hr2⟩ := szS_ev l h1 h3
  refine Ev.bind hr ?_
  by_cases c : r < 0
  · exact ev_if c (Ev.now _)
  have hl := hr2 c
  obtain ⟨q, hs, hi⟩ := hours_both l hl s
  refine ev_else c (Ev.bind (toS_ev l hl) (Ev.bind hs (Ev.bind (toS_ev l hl) (Ev.bind hi (ev_if rfl ?_)))))
  refine Ev.step (fun k => rfl) ?_
  simp only [laws_FnExactHoursBySun.j0]
  exact ev_else (by simp) (Ev.bind (toS_ev l hl) (Ev.bind (eqStringS_self l hl) (ev_if rfl (Ev.now _))))

end Go.Proofs.YtaocnjaeaiacmaaDoor.Pure
