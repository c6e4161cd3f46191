/- For all arguments the program's MostPiecesWhile returns what the reference's MostPiecesWhile returns. Condition: the package variables unicode/utf8.first and unicode/utf8.acceptRanges hold what the library's text lays. -/
import Derived.Test.YtaocnjaeaiacmaaDoorG15
namespace Go.Proofs.YtaocnjaeaiacmaaDoor.Pure
open Go.RowKit Go.Proofs.YtaocnjaeaiacmaaDoor.G Go.Proofs.YtaocnjaeaiacmaaDoorW.PrintWords Go.Proofs.YtaocnjaeaiacmaaDoorW.PrintLast
set_option linter.unusedVariables false
set_option linter.unusedSimpArgs false

theorem w64 {x : Int} (h0 : -9223372036854775808 ≤ x) (h1 : x ≤ 9223372036854775807) : wrap64 x = x := by
 unfold wrap64
 omega
theorem wf_i64 {x : Int} (h : (Lit.int .i64 x).wf = true) : -9223372036854775808 ≤ x ∧ x ≤ 9223372036854775807 := by
 have hmin : IntKind.i64.min = -9223372036854775808 := rfl
 have hmax : IntKind.i64.max = 9223372036854775807 := rfl
 simp only [Lit.wf, Bool.and_eq_true, decide_eq_true_eq] at h
 omega

theorem two {α β : Type} {g : Nat → Option α} {f : Nat → Option β} {a : α} {b : β} (h : Ev g a) (h' : Ev f b) : ∃ k, g k = some a ∧ f k = some b := by
 obtain ⟨K, h⟩ := h
 obtain ⟨K', h'⟩ := h'
 exact ⟨max K K', h _ (by omega), h' _ (by omega)⟩
theorem str_app (xs ys : List Int) : strOfNums (xs ++ ys) = strOfNums xs ++ strOfNums ys := by
 apply ByteArray.ext
 simp [strOfNums]
theorem str_nil : strOfNums [] = (⟨#[]⟩ : ByteArray) := rfl
theorem str_size (xs : List Int) : (strOfNums xs).size = xs.length := by simp [strOfNums, ByteArray.size]
theorem ba_nil_app (b : ByteArray) : (⟨#[]⟩ : ByteArray) ++ b = b := by
 apply ByteArray.ext
 simp
theorem ba_app_nil (b : ByteArray) : b ++ (⟨#[]⟩ : ByteArray) = b := by
 apply ByteArray.ext
 simp
theorem ba_assoc (a b c : ByteArray) : a ++ b ++ c = a ++ (b ++ c) := by
 apply ByteArray.ext
 simp
theorem ev_if {α : Type} {c : Prop} [Decidable c] {g f : Nat → Option α} {r : α} (hc : c) (h : Ev g r) : Ev (fun k => if c then g k else f k) r :=
 Ev.congr (fun k => if_pos hc) h
theorem ev_else {α : Type} {c : Prop} [Decidable c] {g f : Nat → Option α} {r : α} (hc : ¬ c) (h : Ev f r) : Ev (fun k => if c then g k else f k) r :=
 Ev.congr (fun k => if_neg hc) h
theorem ev_bind {α β : Type} {a : α} {o : Option α} {f : Nat → α → Option β} {r : β} (h : o = some a) (k : Ev (fun n => f n a) r) : Ev (fun n => o.bind (f n)) r :=
 Ev.congr (fun n => by rw [h]; rfl) k

theorem l1In_eq (a b c : Int) : spec_l1In.f a b c = some (decide (b ≤ a ∧ a ≤ c)) := by
 unfold spec_l1In.f
 by_cases h : b ≤ a
 ·rw [if_pos (show a ≥ b from h)]; simp [h]
 ·rw [if_neg (show ¬ a ≥ b from h)]; simp [h]
theorem within_eq (a b c : Int) : impl_within.f a b c = some (decide (b ≤ a ∧ a ≤ c)) := by
 unfold impl_within.f
 by_cases h : b ≤ a
 ·rw [if_pos h]; simp [h]
 ·rw [if_neg h]; simp [h]
theorem within_l1In (a b c : Int) : impl_within.f a b c = spec_l1In.f a b c := by rw [within_eq, l1In_eq]

/-! ### Texts -/
theorem w64s {j : Nat} (h : j < 9223372036854775807) : wrap64 ((j : Int) + 1) = ((j + 1 : Nat) : Int) := by
 rw [w64 (by omega) (by omega)]; omega
theorem rdOf_nat {α : Type} (d : α) (xs : List α) (j : Nat) (h : j < xs.length) : rdOf d xs (j : Int) = xs[j] := by
 simp [rdOf, List.getD_eq_getElem?_getD, List.getElem?_eq_getElem h]
theorem eqStringS_l0 (xs : List ByteArray) (hx : xs.length ≤ 1048576) (d : Nat) : ∀ j : Nat, j + d = xs.length → Ev (fun k => laws_eqStringS.l0 k xs xs (j : Int)) true := by
 induction d with
 | zero =>
  intro j hj
  refine Ev.step (fun k => rfl) ?_
  simp only [laws_eqStringS.l0]
  exact ev_else (by omega) (Ev.now _)
 | succ d ih =>
  intro j hj
  refine Ev.step (fun k => rfl) ?_
  simp only [laws_eqStringS.l0]
  refine ev_if (by omega) (ev_if (by omega) (ev_if (by omega) (ev_if ?_ ?_)))
  ·first | rfl | trivial
  rw [w64s (by omega)]
  exact ih (j + 1) (by omega)
theorem eqStringS_self (xs : List ByteArray) (hx : xs.length ≤ 1048576) : Ev (fun k => laws_eqStringS.f k xs xs) true := by
 unfold laws_eqStringS.f
 exact ev_if rfl (eqStringS_l0 xs hx xs.length 0 (by omega))

/-! ### Bytes of a text -/
theorem sz_list (s : ByteArray) : s.data.toList.length = s.size := by rw [Array.length_toList]; rfl
theorem bt_list (s : ByteArray) (j : Nat) (h : j < s.data.toList.length) : bt s (j : Int) = ((s.data.toList[j]'h).toNat : Int) := by
 rw [sz_list] at h
 unfold bt
 rw [dif_pos (by rw [Int.toNat_natCast]; exact h)]
 simp only [Int.toNat_natCast]
 rfl
theorem u8_eq (b : UInt8) (n : Nat) (c : UInt8) (hc : c.toNat = n) : ((b.toNat : Int) = (n : Int)) ↔ b = c := by
 constructor
 ·intro h
  apply UInt8.toNat_inj.mp
  omega
 ·rintro rfl
  rw [hc]
theorem dw_nil {α : Type} (p : α → Bool) (l : List α) : l.all p = true → l.dropWhile p = [] := by
 induction l with
 | nil => intro _; rfl
 | cons a l ih =>
  intro h
  rw [List.all_cons, Bool.and_eq_true] at h
  rw [List.dropWhile_cons, if_pos h.1]
  exact ih h.2
theorem dw_all {α : Type} (p : α → Bool) (l : List α) : (l.dropWhile p).all p = true → l.all p = true := by
 induction l with
 | nil => intro _; rfl
 | cons a l ih =>
  intro h
  rw [List.dropWhile_cons] at h
  by_cases c : p a = true
  ·rw [if_pos c] at h
   rw [List.all_cons, c, ih h]; rfl
  ·rw [if_neg c] at h
   exact h
theorem trimS_all (l cs : List UInt8) : (Lib.trimS l cs == []) = l.all (cs.contains ·) := by
 cases h : l.all (cs.contains ·) with
 | true =>
  have hr : l.reverse.all (cs.contains ·) = true := by rw [List.all_reverse]; exact h
  have e : Lib.trimRightS l cs = [] := by
   unfold Lib.trimRightS
   rw [dw_nil _ _ hr]; rfl
  unfold Lib.trimS
  rw [e]
  rfl
 | false =>
  rw [beq_eq_false_iff_ne]
  intro e
  have h1 : (Lib.trimRightS l cs).all (cs.contains ·) = true := by
   refine dw_all _ _ ?_
   have e' : List.dropWhile (cs.contains ·) (Lib.trimRightS l cs) = [] := e
   rw [e']
   rfl
  have h2 : (l.reverse.dropWhile (cs.contains ·)).all (cs.contains ·) = true := by
   have h3 := h1
   unfold Lib.trimRightS at h3
   rw [List.all_reverse] at h3
   exact h3
  have h4 := dw_all _ _ h2
  rw [List.all_reverse, h] at h4
  cases h4

/-! ### Arguments: lists of texts -/
theorem szS_l0 (xs : List ByteArray) (hx : xs.length ≤ 1048576) (hs : ∀ x ∈ xs, x.size ≤ 9223372036854775807) (d : Nat) : ∀ (j : Nat) (left : Int), j + d = xs.length → 0 ≤ left → left ≤ 1048576 → ∃ r, Ev (fun k => laws_szStringS.l0 k xs left (j : Int)) r := by
 induction d with
 | zero =>
  intro j left hj h0 h1
  refine ⟨left, Ev.step (fun k => rfl) ?_⟩
  simp only [laws_szStringS.l0]
  exact ev_else (by omega) (Ev.now _)
 | succ d ih =>
  intro j left hj h0 h1
  have hl : j < xs.length := by omega
  have hb := hs _ (List.getElem_mem hl)
  have e : wrap64 (left - (xs[j].size : Int)) = left - (xs[j].size : Int) := w64 (by omega) (by omega)
  by_cases c : left - (xs[j].size : Int) < 0
  ·refine ⟨-1, Ev.step (fun k => rfl) ?_⟩
   simp only [laws_szStringS.l0]
   rw [rdOf_nat _ _ j hl, e]
   exact ev_if (by omega) (ev_if (by omega) (ev_if c (Ev.now _)))
  ·obtain ⟨r, hr⟩ := ih (j + 1) (left - (xs[j].size : Int)) (by omega) (by omega) (by omega)
   refine ⟨r, Ev.step (fun k => rfl) ?_⟩
   simp only [laws_szStringS.l0]
   rw [rdOf_nat _ _ j hl, e, w64s (by omega)]
   exact ev_if (by omega) (ev_if (by omega) (ev_else c hr))
theorem szS_ev (xs : List ByteArray) (h1 : xs.length ≤ 9223372036854775807) (hs : ∀ x ∈ xs, x.size ≤ 9223372036854775807) : ∃ r, Ev (fun k => laws_szStringS.f k xs 1048576) r ∧ (¬ r < 0 → xs.length ≤ 1048576) := by
 unfold laws_szStringS.f
 have e : wrap64 (1048576 - (xs.length : Int)) = 1048576 - (xs.length : Int) := w64 (by omega) (by omega)
 rw [e]
 by_cases c : 1048576 - (xs.length : Int) < 0
 ·exact ⟨-1, ev_if c (Ev.now _), fun h => absurd (show (-1 : Int) < 0 by omega) h⟩
 ·obtain ⟨r, hr⟩ := szS_l0 xs (by omega) hs xs.length 0 (1048576 - (xs.length : Int)) (by omega) (by omega) (by omega)
  exact ⟨r, ev_else c hr, fun _ => by omega⟩
theorem toS_l0 (xs : List ByteArray) (hx : xs.length ≤ 1048576) (d : Nat) : ∀ j : Nat, j + d = xs.length → Ev (fun k => laws_toStringS.l0 k xs (xs.take j ++ List.replicate d (⟨#[]⟩ : ByteArray)) (j : Int)) xs := by
 induction d with
 | zero =>
  intro j hj
  refine Ev.step (fun k => rfl) ?_
  simp only [laws_toStringS.l0]
  rw [List.take_of_length_le (by omega), List.replicate_zero, List.append_nil]
  exact ev_else (by omega) (Ev.now _)
 | succ d ih =>
  intro j hj
  have hl : j < xs.length := by omega
  have ht : (xs.take j).length = j := by rw [List.length_take]; omega
  have e : (xs.take j ++ List.replicate (d + 1) (⟨#[]⟩ : ByteArray)).set j xs[j] = xs.take (j + 1) ++ List.replicate d (⟨#[]⟩ : ByteArray) := by
   rw [List.set_append, if_neg (by omega), ht, Nat.sub_self, List.replicate_succ, List.set_cons_zero, List.take_succ_eq_append_getElem hl, List.append_assoc]
   rfl
  refine Ev.step (fun k => rfl) ?_
  simp only [laws_toStringS.l0]
  rw [rdOf_nat _ _ j hl, Int.toNat_natCast, e, w64s (by omega)]
  exact ev_if (by omega) (ev_if (by omega) (ev_if (by rw [List.length_append, List.length_replicate, ht]; omega) (ih (j + 1) (by omega))))
theorem toS_ev (xs : List ByteArray) (hx : xs.length ≤ 1048576) : Ev (fun k => laws_toStringS.f k xs) xs := by
 unfold laws_toStringS.f
 rw [Int.toNat_natCast]
 exact ev_if (by omega) (ev_if (by omega) (toS_l0 xs hx xs.length 0 (by omega)))

/-! ### Tablets -/
def okSq (b : UInt8) : Bool := b == 35 || b == 46
def okRow (n : Nat) (r : ByteArray) : Bool := decide (r.size = n) && r.data.toList.all okSq
def good (l : List ByteArray) : Bool :=
 decide (1 ≤ (l.length : Int) ∧ (l.length : Int) ≤ 10) && (decide (1 ≤ ((rdOf ByteArray.empty l 0).size : Int) ∧ ((rdOf ByteArray.empty l 0).size : Int) ≤ 10) && l.all (okRow (rdOf ByteArray.empty l 0).size))
theorem mlGood_l1 (l : List ByteArray) (r : ByteArray) (hr : r.size ≤ 1048576) (i : Int) (n : Nat) (b : Bool) (hE : Ev (fun k => spec_mlGood.l0 k l l (n : Int) (wrap64 (i + 1))) b) (d : Nat) :
  ∀ j : Nat, j + d = r.size → Ev (fun k => spec_mlGood.l1 k l r (j : Int) l (n : Int) i) ((r.data.toList.drop j).all okSq && b) := by
 have hl := sz_list r
 induction d with
 | zero =>
  intro j hj
  refine Ev.step (fun k => rfl) ?_
  simp only [spec_mlGood.l1]
  rw [List.drop_of_length_le (by omega)]
  exact ev_else (by omega) hE
 | succ d ih =>
  intro j hj
  have hj' : j < r.data.toList.length := by omega
  rw [List.drop_eq_getElem_cons hj', List.all_cons]
  refine Ev.step (fun k => rfl) ?_
  simp only [spec_mlGood.l1]
  rw [bt_list r j hj', w64s (by omega)]
  have h1 := u8_eq (r.data.toList[j]) 35 35 rfl
  have h2 := u8_eq (r.data.toList[j]) 46 46 rfl
  refine ev_if (by omega) (ev_if (by omega) ?_)
  by_cases c1 : r.data.toList[j] = 35
  ·have e : okSq r.data.toList[j] = true := by rw [c1]; rfl
   rw [e, Bool.true_and]
   exact ev_if (h1.mpr c1) (ih (j + 1) (by omega))
  ·by_cases c2 : r.data.toList[j] = 46
   ·have e : okSq r.data.toList[j] = true := by rw [c2]; rfl
    rw [e, Bool.true_and]
    exact ev_else (fun h => c1 (h1.mp h)) (ev_if (h2.mpr c2) (ih (j + 1) (by omega)))
   ·have e : okSq r.data.toList[j] = false := by unfold okSq; rw [beq_false_of_ne c1, beq_false_of_ne c2]; rfl
    rw [e, Bool.false_and, Bool.false_and]
    exact ev_else (fun h => c1 (h1.mp h)) (ev_else (fun h => c2 (h2.mp h)) (Ev.now _))
theorem mlGood_l0 (l : List ByteArray) (hx : l.length ≤ 1048576) (hn : (rdOf ByteArray.empty l 0).size ≤ 1048576) (d : Nat) :
  ∀ j : Nat, j + d = l.length → Ev (fun k => spec_mlGood.l0 k l l (l.length : Int) (j : Int)) ((l.drop j).all (okRow (rdOf ByteArray.empty l 0).size)) := by
 induction d with
 | zero =>
  intro j hj
  refine Ev.step (fun k => rfl) ?_
  simp only [spec_mlGood.l0]
  rw [List.drop_of_length_le (by omega)]
  exact ev_else (by omega) (Ev.now _)
 | succ d ih =>
  intro j hj
  have hl : j < l.length := by omega
  have hE := ih (j + 1) (by omega)
  rw [List.drop_eq_getElem_cons hl, List.all_cons]
  refine Ev.step (fun k => rfl) ?_
  simp only [spec_mlGood.l0]
  rw [rdOf_nat _ _ j hl]
  refine ev_if (by omega) (ev_if (by omega) (ev_if (by omega) (ev_if (by omega) ?_)))
  by_cases c : l[j].size = (rdOf ByteArray.empty l 0).size
  ·refine ev_if (by omega) ?_
   have h := mlGood_l1 l l[j] (by omega) (j : Int) l.length _ (by rw [w64s (by omega)]; exact hE) l[j].size 0 (by omega)
   rw [List.drop_zero] at h
   unfold okRow at h ⊢
   rw [decide_eq_true c, Bool.true_and]
   exact h
  ·refine ev_else (by omega) ?_
   rw [show okRow (rdOf ByteArray.empty l 0).size l[j] = false by unfold okRow; rw [decide_eq_false c]; rfl, Bool.false_and]
   exact Ev.now _
theorem mlGood_ev (l : List ByteArray) (hx : l.length ≤ 1048576) : Ev (fun k => spec_mlGood.f k l) (good l) := by
 unfold spec_mlGood.f good
 simp only [l1In_eq, Option.bind_some]
 by_cases c : 1 ≤ (l.length : Int) ∧ (l.length : Int) ≤ 10
 ·refine ev_if (by simpa using c) (ev_if (by omega) ?_)
  rw [decide_eq_true c, Bool.true_and]
  refine Ev.step (fun k => rfl) ?_
  simp only [spec_mlGood.j0]
  by_cases c2 : 1 ≤ ((rdOf ByteArray.empty l 0).size : Int) ∧ ((rdOf ByteArray.empty l 0).size : Int) ≤ 10
  ·rw [decide_eq_true c2, Bool.true_and]
   exact ev_else (by simp) (mlGood_l0 l hx (by omega) l.length 0 (by omega))
  ·rw [decide_eq_false c2, Bool.false_and]
   exact ev_if rfl (Ev.now _)
 ·refine ev_else (by simpa using c) ?_
  rw [decide_eq_false c, Bool.false_and]
  refine Ev.step (fun k => rfl) ?_
  simp only [spec_mlGood.j0]
  exact ev_if (by first | rfl | trivial) (Ev.now _)
theorem badRow_eq (n : Nat) (h : 1 ≤ (n : Int) ∧ (n : Int) ≤ 10) (x : ByteArray) : badRow n 10 (⟨#[35, 46]⟩ : ByteArray) x = !okRow n x := by
 unfold badRow okRow
 by_cases c : x.size = n
 ·rw [decide_eq_true c, decide_eq_true (show 1 ≤ (x.size : Int) ∧ (x.size : Int) ≤ 10 by omega), ByteArray.toList_eq]
  show (!(Lib.trimS x.data.toList [35, 46]).isEmpty) = !(x.data.toList.all okSq)
  rw [show (Lib.trimS x.data.toList [35, 46]).isEmpty = (Lib.trimS x.data.toList [35, 46] == []) by cases Lib.trimS x.data.toList [35, 46] <;> rfl, trimS_all]
  congr 2
  funext b
  unfold okSq
  rw [List.contains_cons, List.contains_cons, List.contains_nil, Bool.or_false]
 ·rw [decide_eq_false c]; rfl
theorem areRows_eq (l : List ByteArray) : impl_areRows.f l 10 (⟨#[35, 46]⟩ : ByteArray) = some (good l) := by
 unfold impl_areRows.f good
 rw [if_pos ⟨by omega, by decide, by decide⟩]
 congr 1
 by_cases c : 1 ≤ (l.length : Int) ∧ (l.length : Int) ≤ 10
 ·congr 1
  by_cases c2 : 1 ≤ ((rdOf ByteArray.empty l 0).size : Int) ∧ ((rdOf ByteArray.empty l 0).size : Int) ≤ 10
  ·rw [decide_eq_true c2, Bool.true_and, List.any_eq_not_all_not, Bool.not_not]
   congr 1
   funext x
   rw [badRow_eq _ c2, Bool.not_not]
  ·rw [decide_eq_false c2, Bool.false_and]
   have h0 : 0 < l.length := by omega
   have e : rdOf ByteArray.empty l 0 = l[0] := rdOf_nat _ l 0 h0
   have : l.any (badRow (rdOf ByteArray.empty l 0).size 10 (⟨#[35, 46]⟩ : ByteArray)) = true := by
    rw [List.any_eq_true]
    refine ⟨l[0], List.getElem_mem h0, ?_⟩
    rw [← e]
    unfold badRow
    rw [decide_eq_false c2]
    simp
   rw [this]; rfl
 ·rw [decide_eq_false c, Bool.false_and, Bool.false_and]
theorem isTablet_eq (l : List ByteArray) : impl_IsTablet.f l = some (good l) := by
 unfold impl_IsTablet.f
 rw [areRows_eq]; rfl

/-! ### Tablets -/
def sqb (b : Bool) : UInt8 := if b then 35 else 46
/-- A row's text. -/
def rowOf (r : List Bool) : ByteArray := ⟨(r.map sqb).toArray⟩
theorem rowOf_size (r : List Bool) : (rowOf r).size = r.length := by simp [rowOf, ByteArray.size]
theorem rowOf_snoc (r : List Bool) (b : Bool) : rowOf (r ++ [b]) = rowOf r ++ (⟨#[sqb b]⟩ : ByteArray) := by
 apply ByteArray.ext
 simp [rowOf]
theorem flat_len (w : Nat) (rows : List (List Bool)) (h : ∀ r ∈ rows, r.length = w) : rows.flatten.length = w * rows.length := by
 induction rows with
 | nil => simp
 | cons r rows ih =>
  rw [List.flatten_cons, List.length_append, List.length_cons, ih (fun s hs => h s (List.mem_cons_of_mem _ hs)), h r (by simp), Nat.mul_succ]
  omega
theorem flat_slice (w : Nat) (rows : List (List Bool)) (h : ∀ r ∈ rows, r.length = w) (j : Nat) (hj : j < rows.length) : (rows.flatten.take (w * j + w)).drop (w * j) = rows[j] := by
 have e : rows = rows.take j ++ rows[j] :: rows.drop (j + 1) := by
  rw [← List.drop_eq_getElem_cons hj, List.take_append_drop]
 have h1 : (rows.take j).flatten.length = w * j := by
  rw [flat_len w _ (fun r hr => h r (List.mem_of_mem_take hr)), List.length_take, Nat.min_eq_left (by omega)]
 have h2 : rows[j].length = w := h _ (List.getElem_mem hj)
 have e2 : rows.flatten = (rows.take j).flatten ++ (rows[j] ++ (rows.drop (j + 1)).flatten) := by
  conv => lhs; rw [e]
  rw [List.flatten_append, List.flatten_cons]
 rw [e2, List.take_append, h1, List.take_of_length_le (l := (rows.take j).flatten) (by rw [h1]; omega), show w * j + w - w * j = w by omega, List.take_append, List.take_of_length_le (l := rows[j]) (by omega), h2, Nat.sub_self, List.take_zero, List.append_nil]
 rw [← h1, List.drop_left]

theorem mlOf_l1 (w : Int) (is : List Bool) (out : List ByteArray) (fr : Int) (r : List Bool) (hr : r.length ≤ 1000000) (ho : out.length < 8796093022208) (R : List ByteArray)
  (hE : Ev (fun k => spec_mlOf.l0 k w is (out ++ [rowOf r]) (wrap64 (fr + w))) R) (d : Nat) : ∀ j : Nat, j + d = r.length → Ev (fun k => spec_mlOf.l1 k w is out fr (rowOf (r.take j)) r (r.length : Int) (j : Int)) R := by
 induction d with
 | zero =>
  intro j hj
  refine Ev.step (fun k => rfl) ?_
  simp only [spec_mlOf.l1]
  rw [List.take_of_length_le (by omega)]
  exact ev_else (by omega) (ev_if ho hE)
 | succ d ih =>
  intro j hj
  have hl : j < r.length := by omega
  have e1 : rowOf (r.take (j + 1)) = rowOf (r.take j) ++ (⟨#[sqb r[j]]⟩ : ByteArray) := by
   rw [List.take_succ_eq_append_getElem hl, rowOf_snoc]
  have hs : (rowOf (r.take j)).size ≤ 1000000 := by rw [rowOf_size, List.length_take]; omega
  have h := ih (j + 1) (by omega)
  rw [e1] at h
  refine Ev.step (fun k => rfl) ?_
  simp only [spec_mlOf.l1]
  refine ev_if (by omega) (ev_if (by omega) (ev_if (by omega) ?_))
  rw [rdOf_nat _ _ j hl, w64s (by omega)]
  cases hb : r[j] with
  | true => rw [hb] at h; exact ev_if rfl (ev_if (by omega) h)
  | false => rw [hb] at h; exact ev_else (by simp) (ev_if (by omega) h)
theorem mlOf_l0 (w : Nat) (hw : 1 ≤ w ∧ w ≤ 1000) (rows : List (List Bool)) (hn : rows.length ≤ 1000) (h : ∀ r ∈ rows, r.length = w) (d : Nat) : ∀ j : Nat, j + d = rows.length →
  Ev (fun k => spec_mlOf.l0 k (w : Int) rows.flatten ((rows.take j).map rowOf) ((w * j : Nat) : Int)) (rows.map rowOf) := by
 have hf := flat_len w rows h
 have hb : w * rows.length ≤ 1000 * 1000 := Nat.mul_le_mul hw.2 hn
 induction d with
 | zero =>
  intro j hj
  obtain rfl : j = rows.length := by omega
  refine Ev.step (fun k => rfl) ?_
  simp only [spec_mlOf.l0]
  rw [List.take_of_length_le (Nat.le_refl _)]
  exact ev_else (by omega) (Ev.now _)
 | succ d ih =>
  intro j hj
  have hl : j < rows.length := by omega
  have hm : w * (j + 1) ≤ w * rows.length := Nat.mul_le_mul_left _ (by omega)
  rw [Nat.mul_succ] at hm
  have hn2 := ih (j + 1) (by omega)
  rw [Nat.mul_succ, List.take_succ_eq_append_getElem hl, List.map_append] at hn2
  have hs := flat_slice w rows h j hl
  obtain ⟨p, hp⟩ : ∃ p, p = w * j := ⟨_, rfl⟩
  rw [← hp] at hm hn2 hs ⊢
  have e1 : wrap64 ((p : Int) + (w : Int)) = ((p + w : Nat) : Int) := by rw [w64 (by omega) (by omega)]; omega
  refine Ev.step (fun k => rfl) ?_
  simp only [spec_mlOf.l0]
  rw [e1, Int.toNat_natCast, Int.toNat_natCast, hs]
  refine ev_if (by omega) (ev_if (by omega) (ev_if (by omega) (ev_if (by omega) ?_)))
  have hr := h _ (List.getElem_mem hl)
  exact mlOf_l1 (w : Int) rows.flatten _ (p : Int) rows[j] (by omega) (by rw [List.length_map, List.length_take]; omega) _ (by rw [e1]; exact hn2) rows[j].length 0 (by omega)
theorem mlOf_ev (w : Nat) (hw : 1 ≤ w ∧ w ≤ 1000) (rows : List (List Bool)) (hn : rows.length ≤ 1000) (h : ∀ r ∈ rows, r.length = w) : Ev (fun k => spec_mlOf.f k (w : Int) rows.flatten) (rows.map rowOf) :=
 mlOf_l0 w hw rows hn h rows.length 0 (by omega)

/-! ### Tablets as rows of squares -/
theorem sqb_is (b : UInt8) (h : okSq b = true) : sqb (b == 35) = b := by
 unfold okSq at h
 by_cases c : b = 35
 ·subst c; rfl
 ·rw [beq_false_of_ne c, Bool.false_or, beq_iff_eq] at h
  subst h; rfl
def gridOf (l : List ByteArray) : List (List Bool) := l.map fun r => r.data.toList.map (· == 35)
theorem rowOf_grid (r : ByteArray) (h : r.data.toList.all okSq = true) : rowOf (r.data.toList.map (· == 35)) = r := by
 apply ByteArray.ext
 show ((r.data.toList.map (· == 35)).map sqb).toArray = r.data
 rw [List.map_map, (List.map_congr_left (fun b hb => sqb_is b (List.all_eq_true.1 h b hb)) : r.data.toList.map (sqb ∘ (· == 35)) = r.data.toList.map id), List.map_id]
theorem good_grid (l : List ByteArray) (h : good l = true) : ∃ (w : Nat) (rows : List (List Bool)), l = rows.map rowOf ∧ (1 ≤ w ∧ w ≤ 10) ∧ (1 ≤ rows.length ∧ rows.length ≤ 10) ∧ ∀ r ∈ rows, r.length = w := by
 unfold good at h
 simp only [Bool.and_eq_true, decide_eq_true_eq, List.all_eq_true] at h
 obtain ⟨⟨h1, h2⟩, ⟨h3, h4⟩, h5⟩ := h
 have h6 : ∀ r ∈ l, r.size = (rdOf ByteArray.empty l 0).size ∧ r.data.toList.all okSq = true := by
  intro r hr
  have := h5 r hr
  unfold okRow at this
  rw [Bool.and_eq_true] at this
  exact ⟨of_decide_eq_true this.1, this.2⟩
 refine ⟨(rdOf ByteArray.empty l 0).size, gridOf l, ?_, by omega, by unfold gridOf; rw [List.length_map]; omega, ?_⟩
 ·unfold gridOf
  rw [List.map_map]
  exact ((List.map_congr_left (fun r hr => rowOf_grid r (h6 r hr).2) : l.map (rowOf ∘ fun r => r.data.toList.map (· == 35)) = l.map id).trans (List.map_id _)).symm
 ·intro r hr
  unfold gridOf at hr
  obtain ⟨s, hs, rfl⟩ := List.mem_map.1 hr
  rw [List.length_map, sz_list]
  exact (h6 s hs).1
theorem rowOf_list (r : List Bool) : (rowOf r).data.toList = r.map sqb := by simp [rowOf]
theorem bt_row (r : List Bool) (i : Nat) (h : i < r.length) : (bt (rowOf r) (i : Int) == 35) = r[i] := by
 have h' : i < (rowOf r).data.toList.length := by rw [rowOf_list, List.length_map]; exact h
 have e : (rowOf r).data.toList[i] = sqb r[i] := by simp [rowOf_list]
 rw [bt_list (rowOf r) i h', e]
 cases r[i] <;> rfl
theorem rd_row (rows : List (List Bool)) (j : Nat) (h : j < rows.length) : rdOf ByteArray.empty (rows.map rowOf) (j : Int) = rowOf rows[j] := by
 rw [rdOf_nat _ _ j (by rw [List.length_map]; exact h), List.getElem_map]
theorem rd_row0 (w : Nat) (rows : List (List Bool)) (h : 1 ≤ rows.length) (hr : ∀ r ∈ rows, r.length = w) : (rdOf ByteArray.empty (rows.map rowOf) 0).size = w := by
 have e : rdOf ByteArray.empty (rows.map rowOf) 0 = rowOf rows[0] := rd_row rows 0 h
 rw [e, rowOf_size]
 exact hr _ (List.getElem_mem h)
/-- Is there a square at a place? -/
def atG (w : Nat) (rows : List (List Bool)) (x y : Int) : Bool :=
 if (0 ≤ y ∧ y ≤ (rows.length : Int) - 1) ∧ (0 ≤ x ∧ x ≤ (w : Int) - 1) then (rows.getD y.toNat []).getD x.toNat false else false
theorem atG_nat (w : Nat) (rows : List (List Bool)) (hr : ∀ r ∈ rows, r.length = w) (x y : Nat) (hy : y < rows.length) (hx : x < rows[y].length) : atG w rows (x : Int) (y : Int) = rows[y][x] := by
 have hw := hr _ (List.getElem_mem hy)
 unfold atG
 rw [if_pos ⟨by omega, by omega⟩, Int.toNat_natCast, Int.toNat_natCast]
 simp [List.getD_eq_getElem?_getD, List.getElem?_eq_getElem hy, List.getElem?_eq_getElem hx]
theorem flat_le (w : Nat) (rows : List (List Bool)) (hw : 1 ≤ w ∧ w ≤ 10) (hn : 1 ≤ rows.length ∧ rows.length ≤ 10) (hr : ∀ r ∈ rows, r.length = w) : rows.flatten.length ≤ 100 := by
 rw [flat_len w rows hr]
 exact Nat.mul_le_mul hw.2 hn.2

theorem mlAt_eq (w : Nat) (rows : List (List Bool)) (hw : 1 ≤ w ∧ w ≤ 10) (hn : 1 ≤ rows.length ∧ rows.length ≤ 10) (hr : ∀ r ∈ rows, r.length = w) (x y : Int) : spec_mlAt.f (rows.map rowOf) x y = some (atG w rows x y) := by
 unfold spec_mlAt.f
 simp only [l1In_eq, Option.bind_some, List.length_map]
 rw [rd_row0 w rows hn.1 hr, w64 (x := (rows.length : Int) - 1) (by omega) (by omega), w64 (x := (w : Int) - 1) (by omega) (by omega)]
 by_cases c : 0 ≤ y ∧ y ≤ (rows.length : Int) - 1
 ·rw [if_pos (decide_eq_true c), if_pos (by omega)]
  by_cases c2 : 0 ≤ x ∧ x ≤ (w : Int) - 1
  ·rw [if_pos (decide_eq_true c2)]
   obtain ⟨j, rfl⟩ := Int.eq_ofNat_of_zero_le c.1
   obtain ⟨i, rfl⟩ := Int.eq_ofNat_of_zero_le c2.1
   have hj : j < rows.length := by omega
   have hl := hr _ (List.getElem_mem hj)
   rw [rd_row rows j hj, rowOf_size, hl, if_pos (by omega), if_pos (by omega), if_pos (by omega), if_pos (by omega), bt_row _ i (by omega), atG_nat w rows hr i j hj (by omega)]
  ·rw [if_neg (by rw [decide_eq_false c2]; simp)]
   unfold atG
   rw [if_neg (fun h => c2 h.2)]
 ·rw [if_neg (by rw [decide_eq_false c]; simp)]
  unfold atG
  rw [if_neg (fun h => c h.1)]

theorem has_eq (w : Nat) (rows : List (List Bool)) (hw : 1 ≤ w ∧ w ≤ 10) (hn : 1 ≤ rows.length ∧ rows.length ≤ 10) (hr : ∀ r ∈ rows, r.length = w) (x y : Int) : impl_has.f (rows.map rowOf) x y = some (atG w rows x y) := by
 rw [← mlAt_eq w rows hw hn hr x y]
 unfold impl_has.f spec_mlAt.f
 simp only [within_eq, l1In_eq]
theorem atG_in (w : Nat) (rows : List (List Bool)) (x y : Int) (h : atG w rows x y = true) : ∃ i j : Nat, x = i ∧ y = j ∧ j < rows.length ∧ i < w := by
 unfold atG at h
 split at h
 ·rename_i c
  exact ⟨x.toNat, y.toNat, by omega, by omega, by omega, by omega⟩
 ·cases h

theorem mlIs_l1 (xs : List ByteArray) (r : List Bool) (hr : r.length ≤ 1000) (n j : Int) (acc : List Bool) (ha : acc.length ≤ 1000000) (R : List Bool) (hE : Ev (fun k => spec_mlIs.l0 k (acc ++ r) xs n (wrap64 (j + 1))) R) (d : Nat) :
  ∀ i : Nat, i + d = r.length → Ev (fun k => spec_mlIs.l1 k (acc ++ r.take i) (rowOf r) (i : Int) xs n j) R := by
 have hs := rowOf_size r
 induction d with
 | zero =>
  intro i hi
  refine Ev.step (fun k => rfl) ?_
  simp only [spec_mlIs.l1]
  rw [List.take_of_length_le (by omega)]
  exact ev_else (by omega) hE
 | succ d ih =>
  intro i hi
  have hl : i < r.length := by omega
  have h := ih (i + 1) (by omega)
  rw [List.take_succ_eq_append_getElem hl, ← List.append_assoc] at h
  refine Ev.step (fun k => rfl) ?_
  simp only [spec_mlIs.l1]
  rw [bt_row r i hl, w64s (by omega)]
  exact ev_if (by omega) (ev_if (by omega) (ev_if (by rw [List.length_append, List.length_take]; omega) h))
theorem mlIs_l0 (rows : List (List Bool)) (hn : rows.length ≤ 1000) (hr : ∀ r ∈ rows, r.length ≤ 1000) (hf : rows.flatten.length ≤ 1000000) (d : Nat) :
  ∀ j : Nat, j + d = rows.length → Ev (fun k => spec_mlIs.l0 k (rows.take j).flatten (rows.map rowOf) (rows.length : Int) (j : Int)) rows.flatten := by
 induction d with
 | zero =>
  intro j hj
  refine Ev.step (fun k => rfl) ?_
  simp only [spec_mlIs.l0]
  rw [List.take_of_length_le (by omega)]
  exact ev_else (by omega) (Ev.now _)
 | succ d ih =>
  intro j hj
  have hl : j < rows.length := by omega
  have h := ih (j + 1) (by omega)
  rw [List.take_succ_eq_append_getElem hl, List.flatten_append, List.flatten_cons, List.flatten_nil, List.append_nil] at h
  have hb : (rows.take j).flatten.length ≤ 1000000 := by
   have e : rows.flatten.length = (rows.take j).flatten.length + (rows.drop j).flatten.length := by
    rw [← List.length_append, ← List.flatten_append, List.take_append_drop]
   omega
  refine Ev.step (fun k => rfl) ?_
  simp only [spec_mlIs.l0]
  rw [rd_row rows j hl]
  have h2 := mlIs_l1 (rows.map rowOf) rows[j] (hr _ (List.getElem_mem hl)) (rows.length : Int) (j : Int) (rows.take j).flatten hb _ (by rw [w64s (by omega)]; exact h) rows[j].length 0 (by omega)
  rw [List.take_zero, List.append_nil] at h2
  exact ev_if (by omega) (ev_if (by omega) (ev_if (by rw [List.length_map]; omega) h2))
theorem mlIs_ev (w : Nat) (rows : List (List Bool)) (hw : 1 ≤ w ∧ w ≤ 10) (hn : 1 ≤ rows.length ∧ rows.length ≤ 10) (hr : ∀ r ∈ rows, r.length = w) : Ev (fun k => spec_mlIs.f k (rows.map rowOf)) rows.flatten := by
 have hf := flat_le w rows hw hn hr
 unfold spec_mlIs.f
 rw [List.length_map]
 exact mlIs_l0 rows (by omega) (fun r h => by rw [hr r h]; omega) (by omega) rows.length 0 (by omega)

def IsG (w : Nat) (g : List (List Bool)) : Prop := (1 ≤ w ∧ w ≤ 10) ∧ (1 ≤ g.length ∧ g.length ≤ 10) ∧ ∀ r ∈ g, r.length = w
/-- How many squares there are. -/
def cntG (g : List (List Bool)) : Nat := g.flatten.count true

/-! ### How many squares there are -/
theorem mlLeft_l0 (bs : List Bool) (hb : bs.length ≤ 1000000) (d : Nat) : ∀ j : Nat, j + d = bs.length → Ev (fun k => spec_mlLeft.l0 k (((bs.take j).count true : Nat) : Int) bs (bs.length : Int) (j : Int)) ((bs.count true : Nat) : Int) := by
 induction d with
 | zero =>
  intro j hj
  refine Ev.step (fun k => rfl) ?_
  simp only [spec_mlLeft.l0]
  rw [List.take_of_length_le (by omega)]
  exact ev_else (by omega) (Ev.now _)
 | succ d ih =>
  intro j hj
  have hl : j < bs.length := by omega
  have h := ih (j + 1) (by omega)
  have hc : (bs.take j).count true ≤ (bs.take j).length := List.count_le_length
  rw [List.length_take] at hc
  rw [List.take_succ_eq_append_getElem hl, List.count_append] at h
  refine Ev.step (fun k => rfl) ?_
  simp only [spec_mlLeft.l0]
  rw [rdOf_nat _ _ j hl, w64s (j := j) (by omega)]
  refine ev_if (by omega) (ev_if (by omega) (ev_if (by omega) ?_))
  cases hbj : bs[j] with
  | true =>
   rw [hbj] at h
   rw [w64s (j := (bs.take j).count true) (by omega)]
   exact ev_if rfl h
  | false =>
   rw [hbj, show [false].count true = 0 from rfl, Nat.add_zero] at h
   exact ev_else (by simp) h
theorem mlLeft_ev (w : Nat) (g : List (List Bool)) (h : IsG w g) : Ev (fun k => spec_mlLeft.f k (g.map rowOf)) ((cntG g : Nat) : Int) := by
 have hf := flat_le w g h.1 h.2.1 h.2.2
 unfold spec_mlLeft.f
 refine Ev.bind (mlIs_ev w g h.1 h.2.1 h.2.2) ?_
 exact mlLeft_l0 g.flatten (by omega) g.flatten.length 0 (by omega)

/-! ### Open sides -/
theorem os_bound (B : Nat → Bool) (j : Nat) (hj : j ≤ 1000) : 0 ≤ osAcc B j ∧ osAcc B j ≤ j := by
 induction j with
 | zero => exact ⟨Int.le_refl _, Int.le_refl _⟩
 | succ j ih =>
  have := ih (by omega)
  have h2 : 0 ≤ notI (B j) ∧ notI (B j) ≤ 1 := by unfold notI; split <;> omega
  simp only [osAcc]
  rw [w64 (by omega) (by omega)]
  omega
theorem mlOpen_l0 (l : List ByteArray) (x y : Int) (B : Nat → Bool) (hB : ∀ j : Nat, j < 4 → spec_mlAt.f l (wrap64 (x + rd [0, 1, 0, -1] (j : Int))) (wrap64 (y + rd [-1, 0, 1, 0] (j : Int))) = some (B j)) (d : Nat) :
  ∀ j : Nat, j + d = 4 → Ev (fun k => spec_mlOpen.l0 k l x y (osAcc B j) (j : Int)) (osAcc B 4) := by
 induction d with
 | zero =>
  intro j hj
  obtain rfl : j = 4 := by omega
  refine Ev.step (fun k => rfl) ?_
  simp only [spec_mlOpen.l0]
  exact ev_else (by omega) (Ev.now _)
 | succ d ih =>
  intro j hj
  have h := ih (j + 1) (by omega)
  have hb := os_bound B j (by omega)
  refine Ev.step (fun k => rfl) ?_
  simp only [spec_mlOpen.l0]
  rw [w64s (by omega)]
  refine ev_if (by omega) (ev_bind rfl (ev_if (by omega) (ev_if (by show (j : Int) < 4; omega) (ev_bind rfl (ev_if (by show (j : Int) < 4; omega) (ev_bind (hB j (by omega)) ?_))))))
  simp only [osAcc] at h
  cases hbj : B j with
  | true =>
   rw [hbj] at h
   unfold notI at h
   rw [if_pos rfl, Int.add_zero, w64 (by omega) (by omega)] at h
   exact ev_if rfl h
  | false =>
   rw [hbj] at h
   unfold notI at h
   rw [if_neg (by simp)] at h
   exact ev_else (by simp) h
/-- What stands beside a place. -/
def besG (w : Nat) (rows : List (List Bool)) (x y : Int) (j : Nat) : Bool := [atG w rows x (y - 1), atG w rows (x + 1) y, atG w rows x (y + 1), atG w rows (x - 1) y].getD j false
/-- How many sides are open. -/
def openG (w : Nat) (rows : List (List Bool)) (x y : Int) : Int := osAcc (besG w rows x y) 4
theorem mlOpen_ev (w : Nat) (rows : List (List Bool)) (hw : 1 ≤ w ∧ w ≤ 10) (hn : 1 ≤ rows.length ∧ rows.length ≤ 10) (hr : ∀ r ∈ rows, r.length = w) (x y : Int) (hx : 0 ≤ x ∧ x ≤ 1000000) (hy : 0 ≤ y ∧ y ≤ 1000000) :
  Ev (fun k => spec_mlOpen.f k (rows.map rowOf) x y) (openG w rows x y) := by
 refine mlOpen_l0 (rows.map rowOf) x y (besG w rows x y) ?_ 4 0 rfl
 intro j hj
 rw [mlAt_eq w rows hw hn hr]
 match j, hj with
 | 0, _ =>
  show some (atG w rows (wrap64 (x + 0)) (wrap64 (y + -1))) = some (atG w rows x (y - 1))
  rw [w64 (x := x + 0) (by omega) (by omega), w64 (x := y + -1) (by omega) (by omega), Int.add_zero]; rfl
 | 1, _ =>
  show some (atG w rows (wrap64 (x + 1)) (wrap64 (y + 0))) = some (atG w rows (x + 1) y)
  rw [w64 (x := x + 1) (by omega) (by omega), w64 (x := y + 0) (by omega) (by omega), Int.add_zero]
 | 2, _ =>
  show some (atG w rows (wrap64 (x + 0)) (wrap64 (y + 1))) = some (atG w rows x (y + 1))
  rw [w64 (x := x + 0) (by omega) (by omega), w64 (x := y + 1) (by omega) (by omega), Int.add_zero]
 | 3, _ =>
  show some (atG w rows (wrap64 (x + -1)) (wrap64 (y + 0))) = some (atG w rows (x - 1) y)
  rw [w64 (x := x + -1) (by omega) (by omega), w64 (x := y + 0) (by omega) (by omega), Int.add_zero]; rfl
theorem openSides_eq (w : Nat) (rows : List (List Bool)) (hw : 1 ≤ w ∧ w ≤ 10) (hn : 1 ≤ rows.length ∧ rows.length ≤ 10) (hr : ∀ r ∈ rows, r.length = w) (x y : Int) (hx : 0 ≤ x ∧ x ≤ 1000000) (hy : 0 ≤ y ∧ y ≤ 1000000) :
  impl_openSides.f (rows.map rowOf) x y = some (openG w rows x y) := by
 unfold impl_openSides.f
 simp only [has_eq w rows hw hn hr, Option.bind_some]
 rw [w64 (x := y - 1) (by omega) (by omega), w64 (x := x + 1) (by omega) (by omega), w64 (x := y + 1) (by omega) (by omega), w64 (x := x - 1) (by omega) (by omega)]
 rfl

/-! ### A square bitten off -/
/-- Rows without the square at a place. -/
def offG (rows : List (List Bool)) (x y : Nat) : List (List Bool) := rows.set y ((rows.getD y []).set x false)
theorem offG_len (rows : List (List Bool)) (x y : Nat) : (offG rows x y).length = rows.length := by simp [offG]
theorem offG_w (w : Nat) (rows : List (List Bool)) (hr : ∀ r ∈ rows, r.length = w) (x y : Nat) (hy : y < rows.length) : ∀ r ∈ offG rows x y, r.length = w := by
 intro r h
 unfold offG at h
 rcases List.mem_or_eq_of_mem_set h with h | h
 ·exact hr r h
 ·rw [h, List.length_set, List.getD_eq_getElem?_getD, List.getElem?_eq_getElem hy]
  exact hr _ (List.getElem_mem hy)
theorem flat_set (w : Nat) (rows : List (List Bool)) (hr : ∀ r ∈ rows, r.length = w) (x y : Nat) (hy : y < rows.length) (hx : x < w) : rows.flatten.set (w * y + x) false = (offG rows x y).flatten := by
 have e : rows = rows.take y ++ rows[y] :: rows.drop (y + 1) := by
  rw [← List.drop_eq_getElem_cons hy, List.take_append_drop]
 have h1 : (rows.take y).flatten.length = w * y := by
  rw [flat_len w _ (fun r h => hr r (List.mem_of_mem_take h)), List.length_take, Nat.min_eq_left (by omega)]
 have h2 : rows[y].length = w := hr _ (List.getElem_mem hy)
 have e2 : rows.flatten = (rows.take y).flatten ++ (rows[y] ++ (rows.drop (y + 1)).flatten) := by
  conv => lhs; rw [e]
  rw [List.flatten_append, List.flatten_cons]
 have e3 : offG rows x y = rows.take y ++ (rows[y].set x false) :: rows.drop (y + 1) := by
  unfold offG
  rw [List.getD_eq_getElem?_getD, List.getElem?_eq_getElem hy, List.set_eq_take_append_cons_drop, if_pos hy]
  rfl
 rw [e3, e2, List.flatten_append, List.flatten_cons, List.set_append, if_neg (by rw [h1]; omega), h1, Nat.add_sub_cancel_left, List.set_append, if_pos (by omega)]
theorem rowOf_off (r : List Bool) (x : Nat) (h : x < r.length) : (rowOf r).extract 0 x ++ strOfNums [46] ++ (rowOf r).extract (x + 1) r.length = rowOf (r.set x false) := by
 apply ByteArray.ext
 apply Array.toList_inj.mp
 have e : (strOfNums [46]).data.toList = [46] := rfl
 rw [ByteArray.data_append, ByteArray.data_append, Array.toList_append, Array.toList_append, ByteArray.data_extract, ByteArray.data_extract, Array.toList_extract, Array.toList_extract, e, rowOf_list, rowOf_list]
 rw [List.set_eq_take_append_cons_drop, if_pos h, List.map_append, List.map_cons, List.map_take, List.map_drop]
 simp [sqb]
 exact List.take_of_length_le (by simp)

/-! ### Hours of melting, on rows of squares -/
def atN (g : List (List Bool)) (x y : Nat) : Bool := (g.getD y []).getD x false
theorem atN_get (g : List (List Bool)) (x y : Nat) (hy : y < g.length) (hx : x < g[y].length) : atN g x y = g[y][x] := by
 simp [atN, List.getD_eq_getElem?_getD, List.getElem?_eq_getElem hy, List.getElem?_eq_getElem hx]
theorem atG_atN (w : Nat) (g : List (List Bool)) (x y : Nat) (hx : x < w) (hy : y < g.length) : atG w g (x : Int) (y : Int) = atN g x y := by
 unfold atG atN
 rw [if_pos ⟨by omega, by omega⟩, Int.toNat_natCast, Int.toNat_natCast]
theorem g_ext (w : Nat) (a b : List (List Bool)) (ha : ∀ r ∈ a, r.length = w) (hb : ∀ r ∈ b, r.length = w) (hl : a.length = b.length) (h : ∀ x y, x < w → y < a.length → atN a x y = atN b x y) : a = b := by
 apply List.ext_getElem hl
 intro y h1 h2
 apply List.ext_getElem (by rw [ha _ (List.getElem_mem h1), hb _ (List.getElem_mem h2)])
 intro x h3 h4
 have hw := ha _ (List.getElem_mem h1)
 have := h x y (by omega) h1
 rw [atN_get a x y h1 h3, atN_get b x y h2 h4] at this
 exact this
def mkG (w n : Nat) (f : Nat → Nat → Bool) : List (List Bool) := (List.range n).map fun y => (List.range w).map fun x => f x y
theorem mkG_len (w n : Nat) (f : Nat → Nat → Bool) : (mkG w n f).length = n := by simp [mkG]
theorem mkG_w (w n : Nat) (f : Nat → Nat → Bool) : ∀ r ∈ mkG w n f, r.length = w := by
 intro r hr
 obtain ⟨y, _, rfl⟩ := List.mem_map.1 hr
 simp
theorem mkG_at (w n : Nat) (f : Nat → Nat → Bool) (x y : Nat) (hx : x < w) (hy : y < n) : atN (mkG w n f) x y = f x y := by
 rw [atN_get (mkG w n f) x y (by rw [mkG_len]; exact hy) (by simp [mkG]; exact hx)]
 simp [mkG]
theorem mkG_of (w : Nat) (g : List (List Bool)) (h : ∀ r ∈ g, r.length = w) : mkG w g.length (atN g) = g :=
 g_ext w _ _ (mkG_w _ _ _) h (mkG_len _ _ _) (fun x y hx hy => mkG_at _ _ _ x y hx (by rw [mkG_len] at hy; exact hy))
/-- Does a square melt in the hour that comes? -/
def meltsG (w : Nat) (g : List (List Bool)) (op : Int) (x y : Nat) : Bool := decide (op ≤ openG w g (x : Int) (y : Int))
/-- A tablet behind an hour. -/
def hourG (w : Nat) (op : Int) (g : List (List Bool)) : List (List Bool) := mkG w g.length fun x y => atN g x y && !meltsG w g op x y
/-- The places of all squares that some are accepted. -/
def spotsG (w : Nat) (g : List (List Bool)) (p : Nat → Nat → Bool) : List (Nat × Nat) := (List.range g.length).flatMap fun y => (List.range w).flatMap fun x => if (atN g x y && p x y) = true then [(x, y)] else []
def placesG (w : Nat) (op : Int) (g : List (List Bool)) : List (Nat × Nat) := spotsG w g (meltsG w g op)
theorem mem_spots (w : Nat) (g : List (List Bool)) (p : Nat → Nat → Bool) (x y : Nat) : (x, y) ∈ spotsG w g p ↔ y < g.length ∧ x < w ∧ atN g x y = true ∧ p x y = true := by
 unfold spotsG
 simp only [List.mem_flatMap, List.mem_range]
 constructor
 ·rintro ⟨b, hb, a, ha, h⟩
  by_cases c : (atN g a b && p a b) = true
  ·rw [if_pos c, List.mem_singleton, Prod.mk.injEq] at h
   obtain ⟨rfl, rfl⟩ := h
   rw [Bool.and_eq_true] at c
   exact ⟨hb, ha, c.1, c.2⟩
  ·rw [if_neg c] at h; cases h
 ·rintro ⟨hy, hx, h1, h2⟩
  exact ⟨y, hy, x, hx, by rw [if_pos (by rw [h1, h2]; rfl)]; simp⟩
theorem offG_at (g : List (List Bool)) (x y x' y' : Nat) (hy : y < g.length) (hx : x < (g.getD y []).length) : atN (offG g x y) x' y' = (atN g x' y' && !decide ((x', y') = (x, y))) := by
 unfold offG atN
 by_cases c : y' = y
 ·subst c
  rw [List.getD_eq_getElem?_getD (l := g.set y' _), List.getElem?_set_self hy]
  show ((g.getD y' []).set x false).getD x' false = _
  by_cases c2 : x' = x
  ·subst c2
   rw [List.getD_eq_getElem?_getD (l := (g.getD y' []).set x' false), List.getElem?_set_self hx]
   simp
  ·rw [List.getD_eq_getElem?_getD (l := (g.getD y' []).set x false), List.getElem?_set_ne (fun e => c2 e.symm), ← List.getD_eq_getElem?_getD]
   simp [c2]
 ·rw [List.getD_eq_getElem?_getD (l := g.set y _), List.getElem?_set_ne (fun e => c e.symm), ← List.getD_eq_getElem?_getD]
  simp [c]
/-- A tablet without the squares at some places. -/
def withoutG (g : List (List Bool)) (L : List (Nat × Nat)) : List (List Bool) := L.foldl (fun r p => offG r p.1 p.2) g
theorem without_keeps (w : Nat) (L : List (Nat × Nat)) : ∀ g : List (List Bool), (∀ r ∈ g, r.length = w) → (∀ p ∈ L, p.2 < g.length ∧ p.1 < w) → (withoutG g L).length = g.length ∧ (∀ r ∈ withoutG g L, r.length = w) ∧ ∀ x y, atN (withoutG g L) x y = (atN g x y && !decide ((x, y) ∈ L)) := by
 induction L with
 | nil => intro g hg _; exact ⟨rfl, hg, fun x y => by simp [withoutG]⟩
 | cons p L ih =>
  intro g hg hp
  have hp0 := hp p (by simp)
  have hw : (g.getD p.2 []).length = w := by
   rw [List.getD_eq_getElem?_getD, List.getElem?_eq_getElem hp0.1]
   exact hg _ (List.getElem_mem hp0.1)
  obtain ⟨h1, h2, h3⟩ := ih (offG g p.1 p.2) (offG_w w g hg p.1 p.2 hp0.1) (fun q hq => by rw [offG_len]; exact hp q (List.mem_cons_of_mem _ hq))
  rw [offG_len] at h1
  refine ⟨h1, h2, fun x y => ?_⟩
  show atN (withoutG (offG g p.1 p.2) L) x y = _
  rw [h3 x y, offG_at g p.1 p.2 x y hp0.1 (by rw [hw]; exact hp0.2)]
  by_cases c : (x, y) = (p.1, p.2)
  ·have : (x, y) = p := c
   simp [this]
  ·have : ¬ (x, y) = p := c
   simp [this]
theorem hourG_len (w : Nat) (op : Int) (g : List (List Bool)) : (hourG w op g).length = g.length := mkG_len _ _ _
theorem hourG_is (w : Nat) (op : Int) (g : List (List Bool)) (h : IsG w g) : IsG w (hourG w op g) := ⟨h.1, by rw [hourG_len]; exact h.2.1, mkG_w _ _ _⟩
theorem places_in (w : Nat) (op : Int) (g : List (List Bool)) : ∀ p ∈ placesG w op g, p.2 < g.length ∧ p.1 < w := by
 rintro ⟨x, y⟩ hp
 have := (mem_spots w g _ x y).1 hp
 exact ⟨this.1, this.2.1⟩
theorem without_hour (w : Nat) (op : Int) (g : List (List Bool)) (h : ∀ r ∈ g, r.length = w) : withoutG g (placesG w op g) = hourG w op g := by
 obtain ⟨h1, h2, h3⟩ := without_keeps w (placesG w op g) g h (places_in w op g)
 refine g_ext w _ _ h2 (mkG_w _ _ _) (by rw [h1, hourG_len]) (fun x y hx hy => ?_)
 rw [h1] at hy
 rw [h3 x y]
 unfold hourG
 rw [mkG_at _ _ _ x y hx hy]
 cases ha : atN g x y with
 | false => rfl
 | true =>
  rw [Bool.true_and, Bool.true_and]
  congr 1
  rw [Bool.eq_iff_iff, decide_eq_true_eq]
  unfold placesG
  rw [mem_spots]
  exact ⟨fun h => h.2.2.2, fun h => ⟨hy, hx, ha, h⟩⟩
theorem cnt_mk (w : Nat) (f : Nat → Nat → Bool) (ys : List Nat) : (ys.map fun y => (List.range w).map fun x => f x y).flatten.count true = (ys.map fun y => (List.range w).countP fun x => f x y).sum := by
 induction ys with
 | nil => rfl
 | cons y ys ih =>
  rw [List.map_cons, List.flatten_cons, List.count_append, ih, List.map_cons, List.sum_cons]
  congr 1
  rw [List.count_eq_countP, List.countP_map]
  congr 1
  funext x
  cases h : f x y <;> simp [h]
theorem cnt_row (f q : Nat → Bool) (y : Nat) (xs : List Nat) : xs.countP f = xs.countP (fun x => f x && !q x) + (xs.flatMap fun x => if (f x && q x) = true then [(x, y)] else []).length := by
 induction xs with
 | nil => rfl
 | cons x xs ih =>
  rw [List.countP_cons, List.countP_cons, List.flatMap_cons, List.length_append, ih]
  cases f x <;> cases q x <;> simp <;> omega
theorem cnt_split (w : Nat) (f q : Nat → Nat → Bool) (ys : List Nat) : (ys.map fun y => (List.range w).countP fun x => f x y).sum = (ys.map fun y => (List.range w).countP fun x => f x y && !q x y).sum + (ys.flatMap fun y => (List.range w).flatMap fun x => if (f x y && q x y) = true then [(x, y)] else []).length := by
 induction ys with
 | nil => rfl
 | cons y ys ih =>
  rw [List.map_cons, List.sum_cons, List.map_cons, List.sum_cons, List.flatMap_cons, List.length_append, ih, cnt_row (fun x => f x y) (fun x => q x y) y (List.range w)]
  omega
theorem cnt_hour (w : Nat) (op : Int) (g : List (List Bool)) (h : ∀ r ∈ g, r.length = w) : cntG g = cntG (hourG w op g) + (placesG w op g).length := by
 have e : cntG g = ((List.range g.length).map fun y => (List.range w).countP fun x => atN g x y).sum := by
  rw [← cnt_mk w (atN g)]
  unfold cntG
  conv => lhs; rw [← mkG_of w g h]
  rfl
 rw [e, cnt_split w (atN g) (meltsG w g op)]
 congr 1
 exact (cnt_mk w (fun x y => atN g x y && !meltsG w g op x y) (List.range g.length)).symm
theorem cnt_le (w : Nat) (g : List (List Bool)) (h : IsG w g) : cntG g ≤ 100 := Nat.le_trans List.count_le_length (flat_le w g h.1 h.2.1 h.2.2)
theorem hour_still (w : Nat) (op : Int) (g : List (List Bool)) (h : ∀ r ∈ g, r.length = w) (hp : placesG w op g = []) : hourG w op g = g := by
 rw [← without_hour w op g h, hp]; rfl
/-- The tablet behind so many hours. -/
def itG (w : Nat) (op : Int) (g : List (List Bool)) : Nat → List (List Bool)
 | 0 => g
 | i + 1 => hourG w op (itG w op g i)
theorem itG_is (w : Nat) (op : Int) (g : List (List Bool)) (h : IsG w g) (i : Nat) : IsG w (itG w op g i) := by
 induction i with
 | zero => exact h
 | succ i ih => exact hourG_is w op _ ih
theorem itG_shift (w : Nat) (op : Int) (g : List (List Bool)) (i : Nat) : itG w op (hourG w op g) i = itG w op g (i + 1) := by
 induction i with
 | zero => rfl
 | succ i ih => show hourG w op (itG w op (hourG w op g) i) = _; rw [ih]; rfl
theorem melt_ends (w : Nat) (op : Int) (c : Nat) : ∀ g : List (List Bool), IsG w g → cntG g ≤ c → ∃ n, n ≤ c ∧ (∀ i, i < n → placesG w op (itG w op g i) ≠ []) ∧ placesG w op (itG w op g n) = [] := by
 induction c with
 | zero =>
  intro g hg hc
  have := cnt_hour w op g hg.2.2
  exact ⟨0, Nat.le_refl _, fun i hi => absurd hi (Nat.not_lt_zero _), List.eq_nil_of_length_eq_zero (by show (placesG w op g).length = 0; omega)⟩
 | succ c ih =>
  intro g hg hc
  by_cases hp : placesG w op g = []
  ·exact ⟨0, Nat.zero_le _, fun i hi => absurd hi (Nat.not_lt_zero _), hp⟩
  ·have := cnt_hour w op g hg.2.2
   have hl := List.length_pos_iff.2 hp
   obtain ⟨n, h1, h2, h3⟩ := ih (hourG w op g) (hourG_is w op g hg) (by omega)
   refine ⟨n + 1, by omega, fun i hi => ?_, by rw [itG_shift] at h3; exact h3⟩
   cases i with
   | zero => exact hp
   | succ i => have := h2 i (by omega); rw [itG_shift] at this; exact this
theorem it_still (w : Nat) (op : Int) (g : List (List Bool)) (h : IsG w g) (n : Nat) (hn : placesG w op (itG w op g n) = []) (d : Nat) : itG w op g (n + d) = itG w op g n := by
 induction d with
 | zero => rfl
 | succ d ih =>
  show hourG w op (itG w op g (n + d)) = _
  rw [ih]
  exact hour_still w op _ (itG_is w op g h n).2.2 hn

/-! ### Melting: what the program and the reference reckon -/
theorem flat_get (w : Nat) (g : List (List Bool)) (h : IsG w g) (j : Nat) (hj : j < w * g.length) : g.flatten[j]? = some (atN g (j % w) (j / w)) := by
 have hw : 0 < w := h.1.1
 have hx : j % w < w := Nat.mod_lt _ hw
 have hy : j / w < g.length := Nat.div_lt_of_lt_mul hj
 have e := flat_slice w g h.2.2 (j / w) hy
 have hl := h.2.2 _ (List.getElem_mem hy)
 have e2 : g[j / w][j % w]? = g.flatten[j]? := by
  rw [← e, List.getElem?_drop, List.getElem?_take, if_pos (by omega), Nat.div_add_mod]
 rw [← e2, List.getElem?_eq_getElem (by omega), atN_get g _ _ hy (by omega)]
theorem mlHour_l0 (w : Nat) (op : Int) (g : List (List Bool)) (h : IsG w g) (d : Nat) : ∀ j : Nat, j + d = w * g.length →
  Ev (fun k => spec_mlHour.l0 k (g.map rowOf) op ((hourG w op g).flatten.take j ++ g.flatten.drop j) (w : Int) ((w * g.length : Nat) : Int) (j : Int)) ((hourG w op g).map rowOf) := by
 have hH := hourG_is w op g h
 have l1 := flat_len w g h.2.2
 have l2 := flat_len w (hourG w op g) hH.2.2
 rw [hourG_len] at l2
 have hb : w * g.length ≤ 10 * 10 := Nat.mul_le_mul h.1.2 h.2.1.2
 induction d with
 | zero =>
  intro j hj
  refine Ev.step (fun k => rfl) ?_
  simp only [spec_mlHour.l0]
  rw [List.take_of_length_le (by omega), List.drop_of_length_le (by omega), List.append_nil]
  exact ev_else (by omega) (Ev.bind (mlOf_ev w (by have := h.1; omega) _ (by rw [hourG_len]; have := h.2.1; omega) hH.2.2) (Ev.now _))
 | succ d ih =>
  intro j hj
  have hw : 0 < w := h.1.1
  have hw10 := h.1
  have hg10 := h.2.1
  have hjn : j < w * g.length := by omega
  have hx : j % w < w := Nat.mod_lt _ hw
  have hy : j / w < g.length := Nat.div_lt_of_lt_mul hjn
  have f1 := flat_get w g h j hjn
  have f2 := flat_get w (hourG w op g) hH j (by rw [hourG_len]; exact hjn)
  have t1 : Int.tmod (j : Int) (w : Int) = ((j % w : Nat) : Int) := rfl
  have t2 : Int.tdiv (j : Int) (w : Int) = ((j / w : Nat) : Int) := rfl
  obtain ⟨a, hae⟩ : ∃ a, a = j % w := ⟨_, rfl⟩
  obtain ⟨b, hbe⟩ : ∃ b, b = j / w := ⟨_, rfl⟩
  rw [← hae] at hx f1 f2 t1
  rw [← hbe] at hy f1 f2 t2
  clear hae hbe
  have hF : j < g.flatten.length := by omega
  have hHl : j < (hourG w op g).flatten.length := by omega
  have e1 : g.flatten[j] = atN g a b := by rw [List.getElem?_eq_getElem hF] at f1; exact Option.some.inj f1
  have e2 : (hourG w op g).flatten[j] = (atN g a b && !meltsG w g op a b) := by
   rw [List.getElem?_eq_getElem hHl] at f2
   rw [Option.some.inj f2]
   exact mkG_at _ _ _ _ _ hx hy
  have hn := ih (j + 1) (by omega)
  rw [List.take_succ_eq_append_getElem hHl] at hn
  have ht : ((hourG w op g).flatten.take j).length = j := by rw [List.length_take]; omega
  have hd : g.flatten.drop j = g.flatten[j] :: g.flatten.drop (j + 1) := List.drop_eq_getElem_cons hF
  have hlen : ((hourG w op g).flatten.take j ++ g.flatten.drop j).length = w * g.length := by rw [List.length_append, ht, List.length_drop]; omega
  have hrd : rdOf false ((hourG w op g).flatten.take j ++ g.flatten.drop j) (j : Int) = g.flatten[j] := by
   rw [rdOf_nat _ _ j (by omega), List.getElem_append_right (by omega)]
   simp only [ht, Nat.sub_self, List.getElem_drop, Nat.add_zero]
  have hset : ((hourG w op g).flatten.take j ++ g.flatten.drop j).set j false = (hourG w op g).flatten.take j ++ false :: g.flatten.drop (j + 1) := by
   rw [List.set_append, if_neg (by omega), ht, Nat.sub_self, hd, List.set_cons_zero]
  refine Ev.step (fun k => rfl) ?_
  simp only [spec_mlHour.l0]
  rw [hrd, Int.toNat_natCast, hset, w64s (j := j) (by omega)]
  refine ev_if (by omega) (ev_if (by omega) (ev_if (by omega) ?_))
  cases ha : atN g a b with
  | false =>
   rw [ha] at e1 e2
   rw [e1]
   refine ev_else (by simp) ?_
   rw [e2, List.append_assoc] at hn
   rw [hd, e1]
   exact hn
  | true =>
   rw [ha] at e1 e2
   rw [e1]
   rw [t1, t2, w64 (x := (b : Int)) (by omega) (by omega)]
   refine ev_if rfl (ev_else (by omega) (Ev.bind (mlOpen_ev w g h.1 h.2.1 h.2.2 _ _ (by omega) (by omega)) ?_))
   cases hm : meltsG w g op a b with
   | true =>
    rw [hm] at e2
    have hc := of_decide_eq_true hm
    refine ev_if hc ?_
    rw [e2, List.append_assoc] at hn
    exact hn
   | false =>
    rw [hm] at e2
    have hc := of_decide_eq_false hm
    refine ev_else hc ?_
    rw [e2, List.append_assoc] at hn
    rw [hd, e1]
    exact hn
theorem mlHour_ev (w : Nat) (op : Int) (g : List (List Bool)) (h : IsG w g) : Ev (fun k => spec_mlHour.f k (g.map rowOf) op) ((hourG w op g).map rowOf) := by
 have l1 := flat_len w g h.2.2
 have hn := h.2.1
 unfold spec_mlHour.f
 refine Ev.bind (mlIs_ev w g h.1 h.2.1 h.2.2) (ev_if (by rw [List.length_map]; omega) ?_)
 rw [rd_row0 w g h.2.1.1 h.2.2, l1]
 exact mlHour_l0 w op g h (w * g.length) 0 (by omega)
theorem len_flatMap_le {α β : Type} (f : α → List β) (c : Nat) (l : List α) (h : ∀ a ∈ l, (f a).length ≤ c) : (l.flatMap f).length ≤ c * l.length := by
 induction l with
 | nil => simp
 | cons a l ih =>
  have h1 := h a (by simp)
  have h2 := ih (fun b hb => h b (List.mem_cons_of_mem _ hb))
  rw [List.flatMap_cons, List.length_append, List.length_cons, Nat.mul_succ]
  omega
def toI (p : Nat × Nat) : List Int := [(p.1 : Int), (p.2 : Int)]
def cellS (g : List (List Bool)) (q : Nat → Nat → Bool) (y x : Nat) : List (Nat × Nat) := if (atN g x y && q x y) = true then [(x, y)] else []
theorem cellS_len (g : List (List Bool)) (q : Nat → Nat → Bool) (y x : Nat) : (cellS g q y x).length ≤ 1 := by unfold cellS; split <;> simp
theorem spots_l1 (w : Nat) (g : List (List Bool)) (h : IsG w g) (p : Int → Int → Option Bool) (q : Nat → Nat → Bool) (hp : ∀ x y : Nat, x < w → y < g.length → p (x : Int) (y : Int) = some (q x y)) (y : Nat) (hy : y < g.length) (acc : List (List Int)) (ha : acc.length ≤ 1000) (R : List (List Int))
  (hE : Ev (fun k => impl_spots.l0 p k (acc ++ ((List.range w).flatMap (cellS g q y)).map toI) (g.map rowOf) (g.length : Int) (wrap64 ((y : Int) + 1))) R) (d : Nat) : ∀ x : Nat, x + d = w →
  Ev (fun k => impl_spots.l1 p k (acc ++ ((List.range x).flatMap (cellS g q y)).map toI) (y : Int) (rowOf g[y]) (g.map rowOf) (g.length : Int) (y : Int) ((rowOf g[y]).size : Int) (x : Int)) R := by
 have hl := h.2.2 _ (List.getElem_mem hy)
 have hw := h.1
 have hsz := rowOf_size g[y]
 induction d with
 | zero =>
  intro x hx
  obtain rfl : x = w := by omega
  refine Ev.step (fun k => rfl) ?_
  simp only [impl_spots.l1]
  exact ev_else (by omega) hE
 | succ d ih =>
  intro x hx
  have hb := bt_row g[y] x (by omega)
  have hat := atN_get g x y hy (by omega)
  have hn := ih (x + 1) (by omega)
  have hll := len_flatMap_le (cellS g q y) 1 (List.range x) (fun a _ => cellS_len g q y a)
  rw [List.length_range] at hll
  rw [List.range_succ, List.flatMap_append, List.flatMap_cons, List.flatMap_nil, List.append_nil, List.map_append, ← List.append_assoc] at hn
  refine Ev.step (fun k => rfl) ?_
  simp only [impl_spots.l1]
  rw [w64s (j := x) (by omega)]
  refine ev_if (by omega) (ev_if (by omega) (ev_if (by omega) ?_))
  cases hg : g[y][x] with
  | false =>
   rw [hg] at hb hat
   have hc : cellS g q y x = [] := by unfold cellS; rw [hat]; rfl
   rw [hc, List.map_nil, List.append_nil] at hn
   exact ev_else (by simpa using hb) hn
  | true =>
   rw [hg] at hb hat
   refine ev_if (by simpa using hb) (ev_bind (hp x y (by omega) hy) ?_)
   cases hq : q x y with
   | true =>
    have hc : cellS g q y x = [(x, y)] := by unfold cellS; rw [hat, hq]; rfl
    rw [hc] at hn
    exact ev_if rfl (ev_if (by rw [List.length_append, List.length_map]; omega) hn)
   | false =>
    have hc : cellS g q y x = [] := by unfold cellS; rw [hat, hq]; rfl
    rw [hc, List.map_nil, List.append_nil] at hn
    exact ev_else (by simp) hn
theorem spots_l0 (w : Nat) (g : List (List Bool)) (h : IsG w g) (p : Int → Int → Option Bool) (q : Nat → Nat → Bool) (hp : ∀ x y : Nat, x < w → y < g.length → p (x : Int) (y : Int) = some (q x y)) (d : Nat) : ∀ y : Nat, y + d = g.length →
  Ev (fun k => impl_spots.l0 p k (((List.range y).flatMap fun b => (List.range w).flatMap (cellS g q b)).map toI) (g.map rowOf) (g.length : Int) (y : Int)) ((spotsG w g q).map toI) := by
 have hw := h.1
 have hgl := h.2.1
 induction d with
 | zero =>
  intro y hy
  obtain rfl : y = g.length := by omega
  refine Ev.step (fun k => rfl) ?_
  simp only [impl_spots.l0]
  exact ev_else (by omega) (Ev.now _)
 | succ d ih =>
  intro y hy
  have hyl : y < g.length := by omega
  have hn := ih (y + 1) (by omega)
  have hlen := len_flatMap_le (fun b => (List.range w).flatMap (cellS g q b)) 10 (List.range y) (fun b _ => by
   have := len_flatMap_le (cellS g q b) 1 (List.range w) (fun a _ => cellS_len g q b a)
   rw [List.length_range] at this
   omega)
  rw [List.length_range] at hlen
  rw [List.range_succ, List.flatMap_append, List.flatMap_cons, List.flatMap_nil, List.append_nil, List.map_append] at hn
  refine Ev.step (fun k => rfl) ?_
  simp only [impl_spots.l0]
  rw [rd_row g y hyl]
  have h2 := spots_l1 w g h p q hp y hyl (((List.range y).flatMap fun b => (List.range w).flatMap (cellS g q b)).map toI) (by rw [List.length_map]; omega) _ (by rw [w64s (j := y) (by omega)]; exact hn) w 0 (by omega)
  rw [List.range_zero, List.flatMap_nil, List.map_nil, List.append_nil] at h2
  exact ev_if (by omega) (ev_if (by omega) (ev_if (by rw [List.length_map]; omega) h2))
theorem spots_ev (w : Nat) (g : List (List Bool)) (h : IsG w g) (p : Int → Int → Option Bool) (q : Nat → Nat → Bool) (hp : ∀ x y : Nat, x < w → y < g.length → p (x : Int) (y : Int) = some (q x y)) (a : Int) :
  Ev (fun k => impl_spots.f p k (g.map rowOf) a) ((spotsG w g q).map toI) := by
 unfold impl_spots.f
 rw [List.length_map]
 exact spots_l0 w g h p q hp g.length 0 (by omega)
theorem melting_ev (w : Nat) (op : Int) (g : List (List Bool)) (h : IsG w g) : Ev (fun k => impl_melting.f k (g.map rowOf) op) ((placesG w op g).map toI) := by
 have hw := h.1
 have hgl := h.2.1
 refine spots_ev w g h _ (meltsG w g op) (fun x y hx hy => ?_) 0
 unfold meltP
 rw [openSides_eq w g h.1 h.2.1 h.2.2 _ _ (by omega) (by omega)]
 rfl
theorem clone_eq (l : List ByteArray) (h : l.length ≤ 1048576) : slices_Clone_string_string.f l = some l := by
 unfold slices_Clone_string_string.f
 rw [if_pos h]
theorem put_eq (w : Nat) (rows : List (List Bool)) (hw : 1 ≤ w ∧ w ≤ 10) (hn : 1 ≤ rows.length ∧ rows.length ≤ 10) (hr : ∀ r ∈ rows, r.length = w) (x y : Nat) (hy : y < rows.length) (hx : x < w) : impl_put.f (rows.map rowOf) (x : Int) (y : Int) 46 = some ((offG rows x y).map rowOf) := by
 have h2 : rows[y].length = w := hr _ (List.getElem_mem hy)
 unfold impl_put.f
 rw [rd_row rows y hy, rowOf_size, if_pos ⟨by rw [List.length_map]; omega, by omega, by rw [List.length_map]; omega, by omega, by omega, by omega⟩]
 congr 1
 unfold putAt offG
 rw [rd_row rows y hy, rowOf_size, Int.toNat_natCast, Int.toNat_natCast, show ((x : Int) + 1).toNat = x + 1 by omega, rowOf_off _ x (by omega), List.map_set, List.getD_eq_getElem?_getD, List.getElem?_eq_getElem hy]
 rfl
theorem off_is (w : Nat) (g : List (List Bool)) (h : IsG w g) (x y : Nat) (hy : y < g.length) : IsG w (offG g x y) := ⟨h.1, by rw [offG_len]; exact h.2.1, offG_w w g h.2.2 x y hy⟩
theorem rdL3_nat (xs : List (List Int)) (j : Nat) (h : j < xs.length) : rd_L4 xs (j : Int) = xs[j] := by
 simp [rd_L4, List.getD_eq_getElem?_getD, List.getElem?_eq_getElem h]
theorem without_l0 (w : Nat) (L : List (Nat × Nat)) (hL : L.length ≤ 1000) (n : Nat) (d : Nat) : ∀ (j : Nat) (g : List (List Bool)), j + d = L.length → IsG w g → g.length = n → (∀ p ∈ L, p.2 < n ∧ p.1 < w) →
  Ev (fun k => impl_without.l0 k (g.map rowOf) (L.map toI) (L.length : Int) (j : Int)) ((withoutG g (L.drop j)).map rowOf) := by
 induction d with
 | zero =>
  intro j g hj h hgn hp
  refine Ev.step (fun k => rfl) ?_
  simp only [impl_without.l0]
  rw [List.drop_of_length_le (by omega)]
  exact ev_else (by omega) (Ev.now _)
 | succ d ih =>
  intro j g hj h hgn hp
  have hl : j < L.length := by omega
  have hpj := hp _ (List.getElem_mem hl)
  have hn := ih (j + 1) (offG g L[j].1 L[j].2) (by omega) (off_is w g h _ _ (by omega)) (by rw [offG_len]; exact hgn) hp
  rw [List.drop_eq_getElem_cons hl]
  have e : rd_L4 (L.map toI) (j : Int) = [(L[j].1 : Int), (L[j].2 : Int)] := by
   rw [rdL3_nat _ j (by rw [List.length_map]; exact hl), List.getElem_map]; rfl
  refine Ev.step (fun k => rfl) ?_
  simp only [impl_without.l0]
  rw [e, w64s (by omega)]
  refine ev_if (by omega) (ev_if (by omega) (ev_if (by rw [List.length_map]; omega) (ev_if (by show (0 : Int) < 2; omega) (ev_if (by show (1 : Int) < 2; omega) (ev_bind (put_eq w g h.1 h.2.1 h.2.2 L[j].1 L[j].2 (by omega) (by omega)) hn)))))
theorem without_ev (w : Nat) (g : List (List Bool)) (h : IsG w g) (L : List (Nat × Nat)) (hL : L.length ≤ 1000) (hp : ∀ p ∈ L, p.2 < g.length ∧ p.1 < w) : Ev (fun k => impl_without.f k (g.map rowOf) (L.map toI)) ((withoutG g L).map rowOf) := by
 have hgl := h.2.1
 unfold impl_without.f
 refine ev_bind (clone_eq _ (by rw [List.length_map]; omega)) ?_
 rw [List.length_map]
 exact without_l0 w L hL g.length L.length 0 g (by omega) h rfl hp
theorem places_len (w : Nat) (op : Int) (g : List (List Bool)) (h : IsG w g) : (placesG w op g).length ≤ 100 := by
 have := cnt_hour w op g h.2.2
 have := cnt_le w g h
 omega
theorem hourI_ev (w : Nat) (op : Int) (g : List (List Bool)) (h : IsG w g) : Ev (fun k => impl_without.f k (g.map rowOf) ((placesG w op g).map toI)) ((hourG w op g).map rowOf) := by
 rw [← without_hour w op g h.2.2]
 exact without_ev w g h _ (by have := places_len w op g h; omega) (places_in w op g)

/-! ### All hours -/
def hoursI (w : Nat) (op : Int) (g : List (List Bool)) (n : Nat) : List (List (List Int)) := (List.range n).map fun i => (placesG w op (itG w op g i)).map toI
theorem melt_l0 (w : Nat) (op : Int) (g : List (List Bool)) (h : IsG w g) (n : Nat) (hn100 : n ≤ 100) (hne : ∀ i, i < n → placesG w op (itG w op g i) ≠ []) (hn : placesG w op (itG w op g n) = []) (d : Nat) : ∀ i : Nat, i + d = n →
  Ev (fun k => impl_melt.l0 k ((itG w op g i).map rowOf) op (hoursI w op g i)) (hoursI w op g n, (itG w op g n).map rowOf) := by
 induction d with
 | zero =>
  intro i hi
  obtain rfl : i = n := by omega
  have hI := itG_is w op g h i
  have hm := melting_ev w op _ hI
  rw [hn] at hm
  refine Ev.step (fun k => rfl) ?_
  simp only [impl_melt.l0]
  exact Ev.bind hm (ev_if rfl (ev_bind (clone_eq _ (by rw [List.length_map]; have := hI.2.1; omega)) (Ev.now _)))
 | succ d ih =>
  intro i hi
  have hI := itG_is w op g h i
  have hm := melting_ev w op _ hI
  have hp := List.length_pos_iff.2 (hne i (by omega))
  have hw2 := hourI_ev w op _ hI
  have hnx := ih (i + 1) (by omega)
  have e : hoursI w op g (i + 1) = hoursI w op g i ++ [(placesG w op (itG w op g i)).map toI] := by
   unfold hoursI
   rw [List.range_succ, List.map_append]; rfl
  rw [e] at hnx
  refine Ev.step (fun k => rfl) ?_
  simp only [impl_melt.l0]
  exact Ev.bind hm (ev_else (by rw [List.length_map]; omega) (ev_if (by unfold hoursI; rw [List.length_map, List.length_range]; omega) (Ev.bind hw2 hnx)))
theorem melt_ev (w : Nat) (op : Int) (g : List (List Bool)) (h : IsG w g) (n : Nat) (hn100 : n ≤ 100) (hne : ∀ i, i < n → placesG w op (itG w op g i) ≠ []) (hn : placesG w op (itG w op g n) = []) :
  Ev (fun k => impl_melt.f k (g.map rowOf) op) (hoursI w op g n, (itG w op g n).map rowOf) := melt_l0 w op g h n hn100 hne hn n 0 (by omega)

def allS (w : Nat) (op : Int) (g : List (List Bool)) (n : Nat) : List (List ByteArray) := (List.range n).map fun i => (itG w op g i).map rowOf
theorem rdL5_all (w : Nat) (op : Int) (g : List (List Bool)) (n i : Nat) (h : i < n) : rd_L3 (allS w op g n) (i : Int) = (itG w op g i).map rowOf := by
 simp [rd_L3, allS, List.getD_eq_getElem?_getD, h]
theorem allS_len (w : Nat) (op : Int) (g : List (List Bool)) (n : Nat) : (allS w op g n).length = n := by simp [allS]
theorem mlAll_l0 (w : Nat) (op : Int) (g : List (List Bool)) (h : IsG w g) (n : Nat) (hn100 : n ≤ 100) (hne : ∀ i, i < n → placesG w op (itG w op g i) ≠ []) (hn : placesG w op (itG w op g n) = []) (d : Nat) : ∀ i : Nat, i + d = n →
  Ev (fun k => spec_mlAll.l0 k op (allS w op g (i + 1)) (i : Int)) (allS w op g (n + 1)) := by
 induction d with
 | zero =>
  intro i hi
  obtain rfl : i = n := by omega
  have hI := itG_is w op g h i
  have hc := cnt_hour w op _ hI.2.2
  rw [hn] at hc
  refine Ev.step (fun k => rfl) ?_
  simp only [spec_mlAll.l0]
  rw [rdL5_all w op g (i + 1) i (by omega)]
  refine ev_if (by omega) (ev_if (by rw [allS_len]; omega) (Ev.bind (mlHour_ev w op _ hI) (Ev.bind (mlLeft_ev w _ (hourG_is w op _ hI)) (Ev.bind (mlLeft_ev w _ hI) (ev_if ?_ (Ev.now _))))))
  simp only [List.length_nil] at hc
  omega
 | succ d ih =>
  intro i hi
  have hI := itG_is w op g h i
  have hc := cnt_hour w op _ hI.2.2
  have hp := List.length_pos_iff.2 (hne i (by omega))
  have hnx := ih (i + 1) (by omega)
  have e : allS w op g (i + 1 + 1) = allS w op g (i + 1) ++ [(hourG w op (itG w op g i)).map rowOf] := by
   unfold allS
   rw [List.range_succ (n := i + 1), List.map_append]; rfl
  rw [e] at hnx
  refine Ev.step (fun k => rfl) ?_
  simp only [spec_mlAll.l0]
  rw [rdL5_all w op g (i + 1) i (by omega), w64s (j := i) (by omega)]
  exact ev_if (by omega) (ev_if (by rw [allS_len]; omega) (Ev.bind (mlHour_ev w op _ hI) (Ev.bind (mlLeft_ev w _ (hourG_is w op _ hI)) (Ev.bind (mlLeft_ev w _ hI) (ev_else (by omega) (ev_if (by rw [allS_len]; omega) hnx))))))
theorem mlAll_ev (w : Nat) (op : Int) (g : List (List Bool)) (h : IsG w g) (n : Nat) (hn100 : n ≤ 100) (hne : ∀ i, i < n → placesG w op (itG w op g i) ≠ []) (hn : placesG w op (itG w op g n) = []) :
  Ev (fun k => spec_mlAll.f k (g.map rowOf) op) (allS w op g (n + 1)) := by
 have hgl := h.2.1
 unfold spec_mlAll.f
 rw [rd_row0 w g h.2.1.1 h.2.2]
 exact ev_if (by rw [List.length_map]; omega) (Ev.bind (mlIs_ev w g h.1 h.2.1 h.2.2) (Ev.bind (mlOf_ev w (by have := h.1; omega) g (by omega) h.2.2) (mlAll_l0 w op g h n hn100 hne hn n 0 (by omega))))

/-! ### What is asked -/
theorem asked_ev (l : List ByteArray) (hl : l.length ≤ 1048576) (op : Int) : Ev (fun k => spec_mlAsked.f k l op) (good l && decide (1 ≤ op ∧ op ≤ 4)) := by
 have h := mlGood_ev l hl
 unfold spec_mlAsked.f
 refine Ev.bind h ?_
 cases hg : good l with
 | false => exact ev_else (by simp) (Ev.now _)
 | true => exact ev_if rfl (ev_bind (l1In_eq _ _ _) (Ev.now _))
theorem asked_eq (l : List ByteArray) (op : Int) : impl_areMelting.f l op = some (good l && decide (1 ≤ op ∧ op ≤ 4)) := by
 unfold impl_areMelting.f
 rw [isTablet_eq]
 simp only [Option.bind_some]
 cases hg : good l with
 | false => rfl
 | true => rw [if_pos rfl, within_eq]; rfl
/-- What is known where a tablet and a number of sides are right. -/
theorem asked_is (l : List ByteArray) (op : Int) (h : (good l && decide (1 ≤ op ∧ op ≤ 4)) = true) : ∃ (w : Nat) (g : List (List Bool)) (n : Nat), l = g.map rowOf ∧ IsG w g ∧ n ≤ 100 ∧ (∀ i, i < n → placesG w op (itG w op g i) ≠ []) ∧ placesG w op (itG w op g n) = [] := by
 rw [Bool.and_eq_true] at h
 obtain ⟨w, g, hl, hw, hn, hr⟩ := good_grid l h.1
 obtain ⟨n, h1, h2, h3⟩ := melt_ends w op 100 g ⟨hw, hn, hr⟩ (cnt_le w g ⟨hw, hn, hr⟩)
 exact ⟨w, g, n, hl, ⟨hw, hn, hr⟩, h1, h2, h3⟩

/-! ### Numbers, greater ones first -/
theorem dscI_perm (l : List Int) : (dscI l).Perm l := (List.reverse_perm _).trans (List.mergeSort_perm _ _)
theorem dscI_len (l : List Int) : (dscI l).length = l.length := (dscI_perm l).length_eq
theorem dscI_down (l : List Int) : (dscI l).Pairwise (fun a b => b ≤ a) := by
 unfold dscI
 rw [List.pairwise_reverse]
 have h := List.pairwise_mergeSort (le := fun x y : Int => decide (x ≤ y)) (fun a b c h1 h2 => decide_eq_true (by have := of_decide_eq_true h1; have := of_decide_eq_true h2; omega)) (fun a b => by rw [Bool.or_eq_true, decide_eq_true_eq, decide_eq_true_eq]; omega) l
 exact h.imp (fun h => of_decide_eq_true h)
theorem dscI_eq (l m : List Int) (h : m.Perm l) (hd : m.Pairwise (fun a b => b ≤ a)) : dscI l = m :=
 List.Perm.eq_of_pairwise (le := fun a b : Int => b ≤ a) (fun a b _ _ h1 h2 => by omega) (dscI_down l) hd ((dscI_perm l).trans h.symm)
/-- A number put in where those behind are smaller, those ahead are not. -/
theorem dscI_put (l : List Int) (n : Int) (a : Nat) (ha : a ≤ (dscI l).length) (h1 : ∀ i (h : i < (dscI l).length), a ≤ i → (dscI l)[i] < n) (h2 : ∀ (h : a - 1 < (dscI l).length), 0 < a → n ≤ (dscI l)[a - 1]) : dscI (l ++ [n]) = (dscI l).take a ++ [n] ++ (dscI l).drop a := by
 have hd := dscI_down l
 have hp := dscI_perm l
 obtain ⟨d, e⟩ : ∃ d, d = dscI l := ⟨_, rfl⟩
 rw [← e] at ha h1 h2 hd hp ⊢
 apply dscI_eq
 ·have h3 : (d.take a ++ [n] ++ d.drop a).Perm (n :: d) := by
   rw [List.append_assoc]
   refine (List.perm_middle (a := n) (l₁ := d.take a) (l₂ := d.drop a)).trans ?_
   rw [List.take_append_drop]
  exact h3.trans ((List.Perm.cons n hp).trans (List.perm_append_singleton n l).symm)
 ·rw [List.append_assoc, List.pairwise_append]
  have hg := List.pairwise_iff_getElem.1 hd
  refine ⟨hd.sublist (List.take_sublist _ _), ?_, ?_⟩
  ·rw [List.singleton_append, List.pairwise_cons]
   refine ⟨fun b hb => ?_, hd.sublist (List.drop_sublist _ _)⟩
   obtain ⟨i, hi, rfl⟩ := List.getElem_of_mem hb
   rw [List.length_drop] at hi
   rw [List.getElem_drop]
   exact Int.le_of_lt (h1 _ _ (by omega))
  ·intro x hx y hy
   obtain ⟨i, hi, rfl⟩ := List.getElem_of_mem hx
   rw [List.length_take] at hi
   rw [List.getElem_take]
   have hn : n ≤ d[i] := by
    have h4 := h2 (by omega) (by omega)
    by_cases c : i = a - 1
    ·subst c; exact h4
    ·have := hg i (a - 1) (by omega) (by omega) (by omega); omega
   rw [List.singleton_append, List.mem_cons] at hy
   rcases hy with rfl | hy
   ·exact hn
   ·obtain ⟨j, hj, rfl⟩ := List.getElem_of_mem hy
    rw [List.length_drop] at hj
    rw [List.getElem_drop]
    have := h1 (a + j) (by omega) (by omega)
    omega

/-! ### Pieces, on rows of squares -/
theorem pos_lt (w n x y : Nat) (hx : x < w) (hy : y < n) : w * y + x < w * n := by
 have : w * (y + 1) ≤ w * n := Nat.mul_le_mul_left _ hy
 rw [Nat.mul_succ] at this
 omega
theorem pos_mod (w x y : Nat) (hx : x < w) : (w * y + x) % w = x := by rw [Nat.mul_add_mod, Nat.mod_eq_of_lt hx]
theorem pos_div (w x y : Nat) (hx : x < w) : (w * y + x) / w = y := by rw [Nat.mul_add_div (by omega), Nat.div_eq_of_lt hx]; rfl
theorem flat_at (w : Nat) (g : List (List Bool)) (h : IsG w g) (x y : Nat) (hx : x < w) (hy : y < g.length) : g.flatten[w * y + x]? = some (atN g x y) := by
 rw [flat_get w g h _ (pos_lt w _ x y hx hy), pos_mod w x y hx, pos_div w x y hx]
theorem row_len (w : Nat) (g : List (List Bool)) (h : IsG w g) (y : Nat) (hy : y < g.length) : (g.getD y []).length = w := by
 rw [List.getD_eq_getElem?_getD, List.getElem?_eq_getElem hy]
 exact h.2.2 _ (List.getElem_mem hy)
theorem cnt_off (w : Nat) (g : List (List Bool)) (h : IsG w g) (x y : Nat) (hx : x < w) (hy : y < g.length) (ha : atN g x y = true) : cntG (offG g x y) + 1 = cntG g := by
 have hf := flat_at w g h x y hx hy
 have hl : w * y + x < g.flatten.length := by rw [flat_len w g h.2.2]; exact pos_lt w _ x y hx hy
 rw [List.getElem?_eq_getElem hl, ha] at hf
 have hf := Option.some.inj hf
 unfold cntG
 rw [← flat_set w g h.2.2 x y hy hx, List.count_set hl, hf]
 have : 0 < g.flatten.count true := List.count_pos_iff.2 (by rw [← hf]; exact List.getElem_mem hl)
 simp
 omega
abbrev PcS := List (List Bool) × List (Nat × Nat)
/-- A place beside is looked at. -/
def stepG (w : Nat) (s : PcS) (x y : Int) : PcS := if atG w s.1 x y = true then (offG s.1 x.toNat y.toNat, s.2 ++ [(x.toNat, y.toNat)]) else s
/-- What stands while a piece grows: no square comes back, each is taken once. -/
structure PcOk (w : Nat) (g0 : List (List Bool)) (c : Nat) (s : PcS) : Prop where
 is : IsG w s.1
 len : s.1.length = g0.length
 sub : ∀ x y, atN s.1 x y = true → atN g0 x y = true
 pts : ∀ p ∈ s.2, p.1 < w ∧ p.2 < g0.length
 cnt : cntG s.1 + s.2.length = c
theorem PcOk.step {w : Nat} {g0 : List (List Bool)} {c : Nat} {s : PcS} (h : PcOk w g0 c s) (x y : Int) : PcOk w g0 c (stepG w s x y) := by
 unfold stepG
 split
 ·rename_i ha
  obtain ⟨i, j, rfl, rfl, hj, hi⟩ := atG_in w s.1 x y ha
  rw [Int.toNat_natCast, Int.toNat_natCast]
  rw [atG_atN w s.1 i j hi hj] at ha
  refine ⟨off_is w s.1 h.is i j hj, by show (offG s.1 i j).length = _; rw [offG_len]; exact h.len, fun a b hab => ?_, fun p hp => ?_, ?_⟩
  ·rw [offG_at s.1 i j a b hj (by rw [row_len w s.1 h.is j hj]; exact hi), Bool.and_eq_true] at hab
   exact h.sub a b hab.1
  ·rcases List.mem_append.1 hp with hp | hp
   ·exact h.pts p hp
   ·rw [List.mem_singleton.1 hp]; exact ⟨hi, by have := h.len; show j < _; omega⟩
  ·have := cnt_off w s.1 h.is i j hi hj ha
   have := h.cnt
   simp only [List.length_append, List.length_singleton]
   omega
 ·exact h
theorem stepG_le (w : Nat) (s : PcS) (x y : Int) : s.2.length ≤ (stepG w s x y).2.length ∧ (∀ i (h : i < s.2.length) (h2 : i < (stepG w s x y).2.length), (stepG w s x y).2[i] = s.2[i]) ∧ ∀ a b, atN (stepG w s x y).1 a b = true → atN s.1 a b = true := by
 unfold stepG
 split
 ·rename_i ha
  refine ⟨by simp, fun i h h2 => by simp only [List.getElem_append_left h], fun a b hab => ?_⟩
  obtain ⟨i, j, rfl, rfl, hj, hi⟩ := atG_in w s.1 x y ha
  rw [Int.toNat_natCast, Int.toNat_natCast] at hab
  by_cases c : i < (s.1.getD j []).length
  ·rw [offG_at s.1 i j a b hj c, Bool.and_eq_true] at hab
   exact hab.1
  ·have e : (s.1.getD j []).set i false = s.1.getD j [] := List.set_eq_of_length_le (by omega)
   unfold offG at hab
   rw [e, List.getD_eq_getElem?_getD, List.getElem?_eq_getElem hj] at hab
   simpa using hab
 ·exact ⟨Nat.le_refl _, fun i h h2 => rfl, fun a b h => h⟩
def dxL : List Int := [0, 1, 0, -1]
def dyL : List Int := [-1, 0, 1, 0]
/-- The first n places beside are looked at. -/
def fourG (w : Nat) (s : PcS) (x y : Int) : Nat → PcS
 | 0 => s
 | n + 1 => stepG w (fourG w s x y n) (x + dxL.getD n 0) (y + dyL.getD n 0)
theorem PcOk.four {w : Nat} {g0 : List (List Bool)} {c : Nat} {s : PcS} (h : PcOk w g0 c s) (x y : Int) (n : Nat) : PcOk w g0 c (fourG w s x y n) := by
 induction n with
 | zero => exact h
 | succ n ih => exact ih.step _ _
theorem fourG_le (w : Nat) (s : PcS) (x y : Int) (n : Nat) : s.2.length ≤ (fourG w s x y n).2.length ∧ ∀ a b, atN (fourG w s x y n).1 a b = true → atN s.1 a b = true := by
 induction n with
 | zero => exact ⟨Nat.le_refl _, fun a b h => h⟩
 | succ n ih =>
  have h := stepG_le w (fourG w s x y n) (x + dxL.getD n 0) (y + dyL.getD n 0)
  exact ⟨Nat.le_trans ih.1 h.1, fun a b hab => ih.2 a b (h.2.2 a b hab)⟩
/-- A piece grows, n squares of it looked at from the i-th on. -/
def growG (w : Nat) : Nat → Nat → PcS → PcS
 | 0, _, s => s
 | n + 1, i, s => if h : i < s.2.length then growG w n (i + 1) (fourG w s (s.2[i].1 : Int) (s.2[i].2 : Int) 4) else s
theorem growG_ok (w : Nat) (g0 : List (List Bool)) (c : Nat) (n : Nat) : ∀ i s, PcOk w g0 c s → PcOk w g0 c (growG w n i s) := by
 induction n with
 | zero => intro i s h; exact h
 | succ n ih =>
  intro i s h
  unfold growG
  split
  ·exact ih _ _ (h.four _ _ _)
  ·exact h
theorem growG_le (w : Nat) (n : Nat) : ∀ i s, s.2.length ≤ (growG w n i s).2.length ∧ ∀ a b, atN (growG w n i s).1 a b = true → atN s.1 a b = true := by
 induction n with
 | zero => intro i s; exact ⟨Nat.le_refl _, fun a b h => h⟩
 | succ n ih =>
  intro i s
  unfold growG
  split
  ·rename_i h
   have h1 := fourG_le w s (s.2[i].1 : Int) (s.2[i].2 : Int) 4
   have h2 := ih (i + 1) (fourG w s (s.2[i].1 : Int) (s.2[i].2 : Int) 4)
   exact ⟨Nat.le_trans h1.1 h2.1, fun a b hab => h1.2 a b (h2.2 a b hab)⟩
  ·exact ⟨Nat.le_refl _, fun a b h => h⟩
theorem PcOk.le {w : Nat} {g0 : List (List Bool)} {c : Nat} {s : PcS} (h : PcOk w g0 c s) : s.2.length ≤ c := by have := h.cnt; omega
/-- A piece begins. -/
def begG (g : List (List Bool)) (x y : Nat) : PcS := (offG g x y, [(x, y)])
theorem begG_ok (w : Nat) (g0 g : List (List Bool)) (h : IsG w g) (hl : g.length = g0.length) (hs : ∀ x y, atN g x y = true → atN g0 x y = true) (x y : Nat) (hx : x < w) (hy : y < g.length) (ha : atN g x y = true) : PcOk w g0 (cntG g) (begG g x y) := by
 refine ⟨off_is w g h x y hy, by show (offG g x y).length = _; rw [offG_len]; exact hl, fun a b hab => ?_, fun p hp => ?_, ?_⟩
 ·have hab : atN (offG g x y) a b = true := hab
  rw [offG_at g x y a b hy (by rw [row_len w g h y hy]; exact hx), Bool.and_eq_true] at hab
  exact hs a b hab.1
 ·rw [List.mem_singleton.1 hp]; exact ⟨hx, by show y < _; omega⟩
 ·have := cnt_off w g h x y hx hy ha
  show cntG (offG g x y) + 1 = cntG g
  omega
/-- The numbers of squares of all pieces, from the k-th place on, as they are found. -/
def piecesG (w : Nat) : Nat → Nat → List (List Bool) → List Int
 | 0, _, _ => []
 | d + 1, k, g => if atN g (k % w) (k / w) = true then ((growG w 101 0 (begG g (k % w) (k / w))).2.length : Int) :: piecesG w d (k + 1) (growG w 101 0 (begG g (k % w) (k / w))).1 else piecesG w d (k + 1) g
theorem piecesG_len (w : Nat) (d : Nat) : ∀ k g, (piecesG w d k g).length ≤ d := by
 induction d with
 | zero => intro k g; exact Nat.le_refl _
 | succ d ih =>
  intro k g
  unfold piecesG
  split
  ·rw [List.length_cons]; have := ih (k + 1) (growG w 101 0 (begG g (k % w) (k / w))).1; omega
  ·have := ih (k + 1) g; omega
def allQ : Nat → Nat → Bool := fun _ _ => true
theorem spots_up (w : Nat) (g : List (List Bool)) (q : Nat → Nat → Bool) : (spotsG w g q).Pairwise (fun a b => w * a.2 + a.1 < w * b.2 + b.1) := by
 unfold spotsG
 rw [List.pairwise_flatMap]
 have hin : ∀ y x, ∀ p ∈ (if (atN g x y && q x y) = true then [(x, y)] else []), p = (x, y) := by
  intro y x p hp
  split at hp
  ·exact List.mem_singleton.1 hp
  ·cases hp
 constructor
 ·intro y _
  rw [List.pairwise_flatMap]
  refine ⟨fun x _ => ?_, ?_⟩
  ·split
   ·exact List.pairwise_singleton _ _
   ·exact List.Pairwise.nil
  ·refine List.pairwise_lt_range.imp (fun {a b} hab p hp r hr => ?_)
   rw [hin y a p hp, hin y b r hr]
   show w * y + a < w * y + b
   omega
 ·refine List.pairwise_lt_range.imp (fun {a b} hab p hp r hr => ?_)
  obtain ⟨x1, hx1, hp⟩ := List.mem_flatMap.1 hp
  obtain ⟨x2, hx2, hr⟩ := List.mem_flatMap.1 hr
  rw [hin a x1 p hp, hin b x2 r hr]
  rw [List.mem_range] at hx1 hx2
  show w * a + x1 < w * b + x2
  have : w * (a + 1) ≤ w * b := Nat.mul_le_mul_left _ hab
  rw [Nat.mul_succ] at this
  omega
theorem spots_head (w : Nat) (g : List (List Bool)) (x y : Nat) (hx : x < w) (hy : y < g.length) (ha : atN g x y = true) (hmin : ∀ a b, a < w → b < g.length → atN g a b = true → w * y + x ≤ w * b + a) : ∃ t, spotsG w g allQ = (x, y) :: t := by
 have hm : (x, y) ∈ spotsG w g allQ := (mem_spots w g allQ x y).2 ⟨hy, hx, ha, rfl⟩
 have hp := spots_up w g allQ
 cases e : spotsG w g allQ with
 | nil => rw [e] at hm; cases hm
 | cons h t =>
  rw [e] at hm hp
  rcases List.mem_cons.1 hm with rfl | hm
  ·exact ⟨t, rfl⟩
  ·have h1 := (List.pairwise_cons.1 hp).1 _ hm
   obtain ⟨a, b⟩ := h
   have h2 := (mem_spots w g allQ a b).1 (by rw [e]; simp)
   have := hmin a b h2.2.1 h2.1 h2.2.2.1
   simp only at h1
   omega
theorem spots_none (w : Nat) (g : List (List Bool)) (h : ∀ a b, a < w → b < g.length → atN g a b = false) : spotsG w g allQ = [] := by
 cases e : spotsG w g allQ with
 | nil => rfl
 | cons p t =>
  obtain ⟨a, b⟩ := p
  have h2 := (mem_spots w g allQ a b).1 (by rw [e]; simp)
  rw [h a b h2.2.1 h2.1] at h2
  exact absurd h2.2.2.1 (by simp)

/-! ### Pieces: what the program reckons -/
def mapS (s : PcS) : List ByteArray × List (List Int) := (s.1.map rowOf, s.2.map toI)
theorem pcOne_eq (w : Nat) (g0 : List (List Bool)) (c : Nat) (hc : c ≤ 101) (s : PcS) (h : PcOk w g0 c s) (hp : 0 < s.2.length) (x y : Int) : pcOne (mapS s) x y = some (mapS (stepG w s x y)) := by
 have hl := h.le
 unfold pcOne stepG mapS
 dsimp only
 rw [if_pos (by rw [List.length_map]; omega), has_eq w s.1 h.is.1 h.is.2.1 h.is.2.2, Option.bind_some]
 cases ha : atG w s.1 x y with
 | false => rw [if_neg (by simp), if_neg (by simp)]
 | true =>
  obtain ⟨i, j, rfl, rfl, hj, hi⟩ := atG_in w s.1 x y ha
  rw [if_pos rfl, if_pos rfl, put_eq w s.1 h.is.1 h.is.2.1 h.is.2.2 i j hj hi, Option.bind_some, Int.toNat_natCast, Int.toNat_natCast]
  dsimp only
  rw [List.map_append]
  rfl
theorem pcSide_eq (w : Nat) (g0 : List (List Bool)) (c : Nat) (hc : c ≤ 101) (s : PcS) (h : PcOk w g0 c s) (hp : 0 < s.2.length) (x y : Int) (L : List Int) (hL : ∀ n, n < 4 → L.getD (n * 2) 0 = x + dxL.getD n 0 ∧ L.getD (n * 2 + 1) 0 = y + dyL.getD n 0) (d : Nat) : ∀ n, n + d = 4 → pcSide L d n (mapS (fourG w s x y n)) = some (mapS (fourG w s x y 4)) := by
 induction d with
 | zero =>
  intro n hn
  obtain rfl : n = 4 := by omega
  rfl
 | succ d ih =>
  intro n hn
  have h1 := hL n (by omega)
  have h2 := fourG_le w s x y n
  unfold pcSide
  rw [h1.1, h1.2, pcOne_eq w g0 c hc _ (h.four x y n) (by omega), Option.bind_some]
  exact ih (n + 1) (by omega)
theorem bsP_is (x y : Nat) (hx : x ≤ 1000) (hy : y ≤ 1000) (n : Nat) (hn : n < 4) : (bsP (x : Int) (y : Int)).getD (n * 2) 0 = (x : Int) + dxL.getD n 0 ∧ (bsP (x : Int) (y : Int)).getD (n * 2 + 1) 0 = (y : Int) + dyL.getD n 0 := by
 have e1 : wrap64 ((y : Int) - 1) = (y : Int) + -1 := by rw [w64 (by omega) (by omega)]; rfl
 have e2 : wrap64 ((x : Int) + 1) = (x : Int) + 1 := w64 (by omega) (by omega)
 have e3 : wrap64 ((y : Int) + 1) = (y : Int) + 1 := w64 (by omega) (by omega)
 have e4 : wrap64 ((x : Int) - 1) = (x : Int) + -1 := by rw [w64 (by omega) (by omega)]; rfl
 unfold bsP
 rw [e1, e2, e3, e4]
 match n, hn with
 | 0, _ => exact ⟨(Int.add_zero _).symm, rfl⟩
 | 1, _ => exact ⟨rfl, (Int.add_zero _).symm⟩
 | 2, _ => exact ⟨(Int.add_zero _).symm, rfl⟩
 | 3, _ => exact ⟨rfl, (Int.add_zero _).symm⟩
theorem growG_in (w n i : Nat) (s : PcS) (h : i < s.2.length) : growG w (n + 1) i s = growG w n (i + 1) (fourG w s (s.2[i].1 : Int) (s.2[i].2 : Int) 4) := by
 rw [growG, dif_pos h]
theorem growG_out (w n i : Nat) (s : PcS) (h : ¬ i < s.2.length) : growG w n i s = s := by
 cases n with
 | zero => rfl
 | succ n => rw [growG, dif_neg h]
theorem pcGrow_ev (w : Nat) (g0 : List (List Bool)) (hw : w ≤ 10) (hg : g0.length ≤ 10) (c : Nat) (hc : c ≤ 101) (d : Nat) : ∀ i s, PcOk w g0 c s → 0 < s.2.length → c ≤ i + d → Ev (fun k => pcGrow k i (mapS s)) (mapS (growG w d i s)) := by
 induction d with
 | zero =>
  intro i s h hp hcd
  have hl := h.le
  refine Ev.step (fun k => rfl) ?_
  simp only [pcGrow]
  exact ev_else (by show ¬ i < (s.2.map toI).length; rw [List.length_map]; omega) (Ev.now _)
 | succ d ih =>
  intro i s h hp hcd
  have hl := h.le
  by_cases hlt : i < s.2.length
  ·have hpt := h.pts _ (List.getElem_mem hlt)
   have e : (mapS s).2.getD i [] = toI s.2[i] := by
    show (s.2.map toI).getD i [] = _
    rw [List.getD_eq_getElem?_getD, List.getElem?_map, List.getElem?_eq_getElem hlt]
    rfl
   have h4 := fourG_le w s (s.2[i].1 : Int) (s.2[i].2 : Int) 4
   have hn := ih (i + 1) _ (h.four (s.2[i].1 : Int) (s.2[i].2 : Int) 4) (by omega) (by omega)
   rw [growG_in w d i s hlt]
   refine Ev.step (fun k => rfl) ?_
   simp only [pcGrow]
   rw [e]
   refine ev_if (by show i < (s.2.map toI).length; rw [List.length_map]; exact hlt) (ev_if ⟨by show 1 < 2; omega, by show (s.2.map toI).length ≤ _; rw [List.length_map]; omega⟩ (ev_bind (pcSide_eq w g0 c hc s h hp (s.2[i].1 : Int) (s.2[i].2 : Int) (bsP (s.2[i].1 : Int) (s.2[i].2 : Int)) (bsP_is _ _ (by omega) (by omega)) 4 0 (by omega)) hn))
  ·rw [growG_out w _ i s hlt]
   refine Ev.step (fun k => rfl) ?_
   simp only [pcGrow]
   exact ev_else (by show ¬ i < (s.2.map toI).length; rw [List.length_map]; omega) (Ev.now _)
theorem pcOut_ev (w : Nat) (g0 : List (List Bool)) (hw : 1 ≤ w ∧ w ≤ 10) (hg : g0.length ≤ 10) (d : Nat) : ∀ k0 g out, k0 + d = w * g0.length → IsG w g → g.length = g0.length → (∀ a b, a < w → b < g.length → atN g a b = true → k0 ≤ w * b + a) → out.length + d ≤ 1000 →
  Ev (fun k => pcOut k (g.map rowOf) out) (dscI (out ++ piecesG w d k0 g)) := by
 induction d with
 | zero =>
  intro k0 g out hk h hl hm ho
  have hz : spotsG w g allQ = [] := spots_none w g (fun a b ha hb => by
   cases e : atN g a b with
   | false => rfl
   | true =>
    have h1 := hm a b ha hb e
    have h2 := pos_lt w g.length a b ha hb
    rw [hl] at h2
    omega)
  have hs := spots_ev w g h (fun _ _ => some true) allQ (fun x y _ _ => rfl) 0
  rw [hz] at hs
  refine Ev.step (fun k => rfl) ?_
  simp only [pcOut]
  refine Ev.bind hs ?_
  show Ev (fun k => if out.length ≤ 100000 then some (dscI out) else none) _
  refine ev_if (by omega) ?_
  rw [show piecesG w 0 k0 g = [] from rfl, List.append_nil]
  exact Ev.now _
 | succ d ih =>
  intro k0 g out hk h hl hm ho
  have hkn : k0 < w * g.length := by rw [hl]; omega
  have hx : k0 % w < w := Nat.mod_lt _ (by omega)
  have hy : k0 / w < g.length := Nat.div_lt_of_lt_mul hkn
  have hxy : w * (k0 / w) + k0 % w = k0 := Nat.div_add_mod _ _
  unfold piecesG
  obtain ⟨x, ex⟩ : ∃ x, x = k0 % w := ⟨_, rfl⟩
  obtain ⟨y, ey⟩ : ∃ y, y = k0 / w := ⟨_, rfl⟩
  rw [← ex, ← ey] at hxy ⊢
  rw [← ex] at hx
  rw [← ey] at hy
  clear ex ey
  have huniq : ∀ a b, a < w → w * b + a = k0 → a = x ∧ b = y := by
   intro a b ha e
   have h1 := pos_mod w a b ha
   have h2 := pos_div w a b ha
   have h3 := pos_mod w x y hx
   have h4 := pos_div w x y hx
   rw [e] at h1 h2
   rw [hxy] at h3 h4
   omega
  cases ha : atN g x y with
  | false =>
   rw [if_neg (by simp)]
   refine ih (k0 + 1) g out (by omega) h hl (fun a b h1 h2 h3 => ?_) (by omega)
   have h4 := hm a b h1 h2 h3
   by_cases e : w * b + a = k0
   ·obtain ⟨rfl, rfl⟩ := huniq a b h1 e
    rw [ha] at h3; cases h3
   ·omega
  | true =>
   rw [if_pos rfl]
   obtain ⟨t, ht⟩ := spots_head w g x y hx hy ha (fun a b h1 h2 h3 => by rw [hxy]; exact hm a b h1 h2 h3)
   have hs := spots_ev w g h (fun _ _ => some true) allQ (fun x y _ _ => rfl) 0
   have hlen : (spotsG w g allQ).length ≤ 100 := by
    have h1 := len_flatMap_le (fun b => (List.range w).flatMap (cellS g allQ b)) 10 (List.range g.length) (fun b _ => by
     have := len_flatMap_le (cellS g allQ b) 1 (List.range w) (fun a _ => cellS_len g allQ b a)
     rw [List.length_range] at this
     omega)
    rw [List.length_range] at h1
    have h2 : (spotsG w g allQ).length = ((List.range g.length).flatMap fun b => (List.range w).flatMap (cellS g allQ b)).length := rfl
    have := h.2.1
    omega
   rw [ht] at hs hlen
   rw [List.length_cons] at hlen
   have hcl := cnt_le w g h
   have hb := begG_ok w g g h rfl (fun _ _ h => h) x y hx hy ha
   have hok := growG_ok w g (cntG g) 101 0 _ hb
   have hle := growG_le w 101 0 (begG g x y)
   have hgr := pcGrow_ev w g hw.2 (by omega) (cntG g) (by omega) 101 0 (begG g x y) hb (by show 0 < 1; omega) (by omega)
   have hwo := without_ev w g h [(x, y)] (by simp) (fun p hp => by rw [List.mem_singleton.1 hp]; exact ⟨hy, hx⟩)
   obtain ⟨S, hS⟩ : ∃ S, S = growG w 101 0 (begG g x y) := ⟨_, rfl⟩
   rw [← hS] at hok hle hgr ⊢
   have hSl := hok.le
   have hn := ih (k0 + 1) S.1 (out ++ [(S.2.length : Int)]) (by omega) hok.is (by rw [hok.len]; exact hl) (fun a b h1 h2 h3 => by
    have h4 : atN (offG g x y) a b = true := hle.2 a b h3
    rw [offG_at g x y a b hy (by rw [row_len w g h y hy]; exact hx), Bool.and_eq_true] at h4
    have h5 := hm a b h1 (by rw [← hok.len]; exact h2) h4.1
    by_cases e : w * b + a = k0
    ·obtain ⟨rfl, rfl⟩ := huniq a b h1 e
     have := h4.2
     simp at this
    ·omega) (by rw [List.length_append, List.length_singleton]; omega)
   rw [List.append_assoc] at hn
   refine Ev.step (fun k => rfl) ?_
   simp only [pcOut]
   refine Ev.bind hs ?_
   show Ev (fun k => if (t.map toI).length ≤ 100000 ∧ out.length ≤ 100000 then (impl_without.f k (g.map rowOf) [toI (x, y)]).bind fun r => (pcGrow k 0 (r, [toI (x, y)])).bind fun s => if s.2.length ≤ 1000000 then pcOut k s.1 (out ++ [(s.2.length : Int)]) else none else none) _
   refine ev_if ⟨by rw [List.length_map]; omega, by omega⟩ (Ev.bind hwo (Ev.bind hgr (ev_if (by show (S.2.map toI).length ≤ _; rw [List.length_map]; omega) ?_)))
   show Ev (fun k => pcOut k (S.1.map rowOf) (out ++ [((S.2.map toI).length : Int)])) _
   rw [List.length_map]
   exact hn

/-! ### Pieces: what the reference reckons -/
def idxI (w : Nat) (p : Nat × Nat) : Int := ((w * p.2 + p.1 : Nat) : Int)
theorem dxy_is (n : Nat) : (-1 ≤ dxL.getD n 0 ∧ dxL.getD n 0 ≤ 1) ∧ (-1 ≤ dyL.getD n 0 ∧ dyL.getD n 0 ≤ 1) := by
 match n with
 | 0 => decide
 | 1 => decide
 | 2 => decide
 | 3 => decide
 | n + 4 => exact ⟨by show -1 ≤ (0 : Int) ∧ (0 : Int) ≤ 1; omega, by show -1 ≤ (0 : Int) ∧ (0 : Int) ≤ 1; omega⟩
theorem mlp_l2 (w : Nat) (g0 : List (List Bool)) (h0 : IsG w g0) (c : Nat) (hc : c ≤ 101) (s : PcS) (hok : PcOk w g0 c s) (x y : Nat) (hx : x < w) (hy : y < g0.length) (x3 : List Int) (i : Int) (x23 x24 : Int) (R : List Int)
  (hE : Ev (fun k => spec_mlPieces.l1 k (g0.map rowOf) x3 (fourG w s (x : Int) (y : Int) 4).1.flatten (w : Int) ((fourG w s (x : Int) (y : Int) 4).2.map (idxI w)) (wrap64 (i + 1)) x23 x24) R) (d : Nat) : ∀ j, j + d = 4 →
  Ev (fun k => spec_mlPieces.l2 k (g0.map rowOf) x3 (fourG w s (x : Int) (y : Int) j).1.flatten (w : Int) ((fourG w s (x : Int) (y : Int) j).2.map (idxI w)) i (x : Int) (y : Int) (j : Int) x23 x24) R := by
 have hw := h0.1
 have hgl := h0.2.1
 induction d with
 | zero =>
  intro j hj
  obtain rfl : j = 4 := by omega
  refine Ev.step (fun k => rfl) ?_
  simp only [spec_mlPieces.l2]
  exact ev_else (by omega) hE
 | succ d ih =>
  intro j hj
  have hn := ih (j + 1) (by omega)
  have hok1 := hok.four (x : Int) (y : Int) j
  have hb := dxy_is j
  have e1 : wrap64 ((x : Int) + rd [0, 1, 0, (-1)] (j : Int)) = (x : Int) + dxL.getD j 0 := w64 (by show _ ≤ (x : Int) + dxL.getD j 0; omega) (by show (x : Int) + dxL.getD j 0 ≤ _; omega)
  have e2 : wrap64 ((y : Int) + rd [(-1), 0, 1, 0] (j : Int)) = (y : Int) + dyL.getD j 0 := w64 (by show _ ≤ (y : Int) + dyL.getD j 0; omega) (by show (y : Int) + dyL.getD j 0 ≤ _; omega)
  have e3 : fourG w s (x : Int) (y : Int) (j + 1) = stepG w (fourG w s (x : Int) (y : Int) j) ((x : Int) + dxL.getD j 0) ((y : Int) + dyL.getD j 0) := rfl
  rw [e3] at hn
  obtain ⟨u, eu⟩ : ∃ u, u = (x : Int) + dxL.getD j 0 := ⟨_, rfl⟩
  obtain ⟨v, ev⟩ : ∃ v, v = (y : Int) + dyL.getD j 0 := ⟨_, rfl⟩
  rw [← eu] at e1 hn
  rw [← ev] at e2 hn
  obtain ⟨s1, es⟩ : ∃ s1, s1 = fourG w s (x : Int) (y : Int) j := ⟨_, rfl⟩
  rw [← es] at hn hok1 ⊢
  have hat := mlAt_eq w g0 h0.1 h0.2.1 h0.2.2 u v
  rw [← e1, ← e2] at hat
  refine Ev.step (fun k => rfl) ?_
  simp only [spec_mlPieces.l2]
  rw [w64s (j := j) (by omega)]
  refine ev_if (by omega) (ev_bind rfl (ev_if (by omega) (ev_if (by show (j : Int) < 4; omega) (ev_bind rfl (ev_if (by show (j : Int) < 4; omega) (ev_bind hat ?_))))))
  rw [e1, e2]
  cases ha : atG w g0 u v with
  | false =>
   have hf : atG w s1.1 u v = false := by
    cases h : atG w s1.1 u v with
    | false => rfl
    | true =>
     obtain ⟨a, b, rfl, rfl, hb2, ha2⟩ := atG_in w s1.1 u v h
     rw [atG_atN w s1.1 a b ha2 hb2] at h
     have h2 := hok1.sub a b h
     rw [atG_atN w g0 a b ha2 (by rw [← hok1.len]; exact hb2), h2] at ha
     cases ha
   rw [show stepG w s1 u v = s1 by unfold stepG; rw [if_neg (by rw [hf]; simp)]] at hn
   exact ev_else (by simp) hn
  | true =>
   obtain ⟨a, b, rfl, rfl, hb2, ha2⟩ := atG_in w g0 u v ha
   have hwb : w * b ≤ 10 * 10 := Nat.mul_le_mul hw.2 (by omega)
   have ei : wrap64 ((wrap64 ((b : Int) * (w : Int))) + (a : Int)) = ((w * b + a : Nat) : Int) := by
    rw [show (b : Int) * (w : Int) = ((w * b : Nat) : Int) by rw [Nat.mul_comm]; rfl, w64 (x := ((w * b : Nat) : Int)) (by omega) (by omega), w64 (by omega) (by omega)]
    rfl
   have hl2 := hok1.len
   have hle := hok1.le
   have hfl := flat_len w s1.1 hok1.is.2.2
   have hpl := pos_lt w s1.1.length a b ha2 (by omega)
   have hfa := flat_at w s1.1 hok1.is a b ha2 (by omega)
   have hlt : w * b + a < s1.1.flatten.length := by rw [hfl]; exact hpl
   have hrd : rdOf false s1.1.flatten ((w * b + a : Nat) : Int) = atN s1.1 a b := by
    rw [rdOf_nat _ _ _ hlt]
    rw [List.getElem?_eq_getElem hlt] at hfa
    exact Option.some.inj hfa
   have hgat := atG_atN w s1.1 a b ha2 (by omega)
   rw [ei, hrd, Int.toNat_natCast]
   refine ev_if rfl (ev_if (Int.natCast_nonneg _) (ev_if (Int.ofNat_lt.2 hlt) ?_))
   cases hs : atN s1.1 a b with
   | false =>
    rw [show stepG w s1 (a : Int) (b : Int) = s1 by unfold stepG; rw [hgat, hs, if_neg (by simp)]] at hn
    exact ev_else (by simp) hn
   | true =>
    rw [show stepG w s1 (a : Int) (b : Int) = (offG s1.1 a b, s1.2 ++ [(a, b)]) by unfold stepG; rw [hgat, hs, if_pos rfl]; rfl] at hn
    dsimp only at hn
    rw [List.map_append, ← flat_set w s1.1 hok1.is.2.2 a b (by omega) ha2] at hn
    have hsl : (s1.2.map (idxI w)).length < 17592186044416 := by rw [List.length_map]; exact Nat.lt_of_le_of_lt hle (by omega)
    exact ev_if rfl (ev_if hsl hn)
theorem mlp_l1 (w : Nat) (g0 : List (List Bool)) (h0 : IsG w g0) (c : Nat) (hc : c ≤ 101) (x3 : List Int) (x23 x24 : Int) (R : List Int) (d : Nat) : ∀ i s, PcOk w g0 c s → c ≤ i + d → i ≤ 1000 →
  Ev (fun k => spec_mlPieces.l3 k (g0.map rowOf) x3 (growG w d i s).1.flatten (w : Int) ((growG w d i s).2.map (idxI w)) (x3.length : Int) x23 x24) R →
  Ev (fun k => spec_mlPieces.l1 k (g0.map rowOf) x3 s.1.flatten (w : Int) (s.2.map (idxI w)) (i : Int) x23 x24) R := by
 have hw := h0.1
 induction d with
 | zero =>
  intro i s h hcd hi hE
  have hl := h.le
  refine Ev.step (fun k => rfl) ?_
  simp only [spec_mlPieces.l1]
  exact ev_else (by rw [List.length_map]; omega) hE
 | succ d ih =>
  intro i s h hcd hi hE
  have hl := h.le
  by_cases hlt : i < s.2.length
  ·have hpt := h.pts _ (List.getElem_mem hlt)
   have e : rd (s.2.map (idxI w)) (i : Int) = ((w * s.2[i].2 + s.2[i].1 : Nat) : Int) := by
    unfold rd
    rw [Int.toNat_natCast, List.getD_eq_getElem?_getD, List.getElem?_map, List.getElem?_eq_getElem hlt]
    rfl
   have t1 : Int.tmod ((w * s.2[i].2 + s.2[i].1 : Nat) : Int) (w : Int) = (((w * s.2[i].2 + s.2[i].1) % w : Nat) : Int) := rfl
   have t2 : Int.tdiv ((w * s.2[i].2 + s.2[i].1 : Nat) : Int) (w : Int) = (((w * s.2[i].2 + s.2[i].1) / w : Nat) : Int) := rfl
   rw [pos_mod w _ _ hpt.1] at t1
   rw [pos_div w _ _ hpt.1] at t2
   rw [growG_in w d i s hlt] at hE
   have hgl := h0.2.1
   have hn := ih (i + 1) _ (h.four (s.2[i].1 : Int) (s.2[i].2 : Int) 4) (by omega) (by omega) hE
   have h2 := mlp_l2 w g0 h0 c hc s h s.2[i].1 s.2[i].2 hpt.1 hpt.2 x3 (i : Int) x23 x24 R (by rw [w64s (by omega)]; exact hn) 4 0 (by omega)
   refine Ev.step (fun k => rfl) ?_
   simp only [spec_mlPieces.l1]
   rw [e, t1, t2, w64 (x := ((s.2[i].2 : Nat) : Int)) (by omega) (by omega)]
   exact ev_if (by rw [List.length_map]; omega) (ev_if (by omega) (ev_else (by omega) h2))
  ·rw [growG_out w _ i s hlt] at hE
   refine Ev.step (fun k => rfl) ?_
   simp only [spec_mlPieces.l1]
   exact ev_else (by rw [List.length_map]; omega) hE
theorem l1Own_eq (l : List Int) (h : l.length ≤ 1000000) : spec_l1Own.f l = some l := by
 unfold spec_l1Own.f
 show (if ([] : List Int).length + l.length < 17592186044416 then some ([] ++ l) else none) = _
 rw [if_pos (by simp only [List.length_nil]; omega), List.nil_append]
theorem mlp_l3 (x0 : List ByteArray) (out : List Int) (ho : out.length ≤ 1000) (x4 : List Bool) (x5 : Int) (sq : List Int) (x23 x24 : Int) (R : List Int)
  (hE : Ev (fun k => spec_mlPieces.l0 k x0 (dscI (out ++ [(sq.length : Int)])) x4 x5 x23 (wrap64 (x24 + 1))) R) (a : Nat) : a ≤ (dscI out).length → (∀ i (h : i < (dscI out).length), a ≤ i → (dscI out)[i] < (sq.length : Int)) →
  Ev (fun k => spec_mlPieces.l3 k x0 (dscI out) x4 x5 sq (a : Int) x23 x24) R := by
 have hlen := dscI_len out
 induction a with
 | zero =>
  intro ha hb
  have hp := dscI_put out (sq.length : Int) 0 ha hb (fun _ h => absurd h (Nat.lt_irrefl 0))
  rw [hp] at hE
  refine Ev.step (fun k => rfl) ?_
  simp only [spec_mlPieces.l3]
  refine ev_else (by omega) (ev_if (by omega) (ev_if (by omega) (ev_bind (l1Own_eq _ (by rw [List.length_take]; omega)) (ev_if (by rw [List.length_take]; omega) (ev_bind rfl (ev_bind rfl (ev_if ?_ hE)))))))
  rw [List.length_append, List.length_take, List.length_drop, List.length_singleton]
  omega
 | succ a ih =>
  intro ha hb
  have hal : a < (dscI out).length := by omega
  have e1 : wrap64 (((a + 1 : Nat) : Int) - 1) = (a : Int) := by rw [w64 (by omega) (by omega)]; omega
  have e2 : rd (dscI out) (a : Int) = (dscI out)[a] := by
   unfold rd
   rw [Int.toNat_natCast, List.getD_eq_getElem?_getD, List.getElem?_eq_getElem hal]
   rfl
  refine Ev.step (fun k => rfl) ?_
  simp only [spec_mlPieces.l3]
  rw [e1, e2]
  refine ev_if (by omega) (ev_if (by omega) (ev_if (by omega) ?_))
  by_cases c : (dscI out)[a] < (sq.length : Int)
  ·refine ev_if c (ih (by omega) (fun i h hai => ?_))
   by_cases e : i = a
   ·subst e; exact c
   ·exact hb i h (by omega)
  ·have hp := dscI_put out (sq.length : Int) (a + 1) ha hb (fun _ _ => by show (sq.length : Int) ≤ (dscI out)[a]; omega)
   rw [hp] at hE
   refine ev_else c (ev_if (by omega) (ev_if (by omega) (ev_bind (l1Own_eq _ (by rw [List.length_take]; omega)) (ev_if (by rw [List.length_take]; omega) (ev_bind rfl (ev_bind rfl (ev_if ?_ hE)))))))
   rw [List.length_append, List.length_take, List.length_drop, List.length_singleton]
   omega
theorem mlp_l0 (w : Nat) (g0 : List (List Bool)) (h0 : IsG w g0) (d : Nat) : ∀ k0 g out, k0 + d = w * g0.length → IsG w g → g.length = g0.length → (∀ x y, atN g x y = true → atN g0 x y = true) → out.length ≤ k0 →
  Ev (fun k => spec_mlPieces.l0 k (g0.map rowOf) (dscI out) g.flatten (w : Int) ((w * g0.length : Nat) : Int) (k0 : Int)) (dscI (out ++ piecesG w d k0 g)) := by
 have hw := h0.1
 have hgl := h0.2.1
 have hn100 : w * g0.length ≤ 10 * 10 := Nat.mul_le_mul hw.2 hgl.2
 induction d with
 | zero =>
  intro k0 g out hk h hl hsub ho
  refine Ev.step (fun k => rfl) ?_
  simp only [spec_mlPieces.l0]
  refine ev_else (by omega) ?_
  rw [show piecesG w 0 k0 g = [] from rfl, List.append_nil]
  exact Ev.now _
 | succ d ih =>
  intro k0 g out hk h hl hsub ho
  have hkn : k0 < w * g.length := by rw [hl]; omega
  have hx : k0 % w < w := Nat.mod_lt _ (by omega)
  have hy : k0 / w < g.length := Nat.div_lt_of_lt_mul hkn
  have hxy : w * (k0 / w) + k0 % w = k0 := Nat.div_add_mod _ _
  have hfl := flat_len w g h.2.2
  have hlt : k0 < g.flatten.length := by rw [hfl]; exact hkn
  have hf := flat_get w g h k0 hkn
  unfold piecesG
  obtain ⟨x, ex⟩ : ∃ x, x = k0 % w := ⟨_, rfl⟩
  obtain ⟨y, ey⟩ : ∃ y, y = k0 / w := ⟨_, rfl⟩
  rw [← ex, ← ey] at hxy hf ⊢
  rw [← ex] at hx
  rw [← ey] at hy
  clear ex ey
  have hrd : rdOf false g.flatten (k0 : Int) = atN g x y := by
   rw [rdOf_nat _ _ _ hlt]
   rw [List.getElem?_eq_getElem hlt] at hf
   exact Option.some.inj hf
  refine Ev.step (fun k => rfl) ?_
  simp only [spec_mlPieces.l0]
  rw [hrd, w64s (j := k0) (by omega), Int.toNat_natCast]
  refine ev_if (by omega) (ev_if (by omega) (ev_if (by omega) ?_))
  cases ha : atN g x y with
  | false =>
   rw [if_neg (show ¬ (false = true) by simp)]
   exact ev_else (by simp) (ih (k0 + 1) g out (by omega) h hl hsub (by omega))
  | true =>
   rw [if_pos (show (true = true) from rfl)]
   have hcl := cnt_le w g h
   have hb := begG_ok w g0 g h hl hsub x y hx hy ha
   have hok := growG_ok w g0 (cntG g) 101 0 _ hb
   have hset : g.flatten.set k0 false = (begG g x y).1.flatten := by
    show _ = (offG g x y).flatten
    rw [← flat_set w g h.2.2 x y hy hx, hxy]
   have hsq : ([(k0 : Int)] : List Int) = (begG g x y).2.map (idxI w) := by
    show [(k0 : Int)] = [((w * y + x : Nat) : Int)]
    rw [hxy]
   have h1 := mlp_l1 w g0 h0 (cntG g) (by omega) (dscI out) ((w * g0.length : Nat) : Int) (k0 : Int) (dscI (out ++ ((growG w 101 0 (begG g x y)).2.length : Int) :: piecesG w d (k0 + 1) (growG w 101 0 (begG g x y)).1)) 101 0 (begG g x y) hb (by omega) (by omega)
   obtain ⟨S, hS⟩ : ∃ S, S = growG w 101 0 (begG g x y) := ⟨_, rfl⟩
   rw [← hS] at hok h1 ⊢
   have hn := ih (k0 + 1) S.1 (out ++ [(S.2.length : Int)]) (by omega) hok.is (by rw [hok.len]) hok.sub (by rw [List.length_append, List.length_singleton]; omega)
   rw [List.append_assoc, List.singleton_append] at hn
   have hd := dscI_len out
   have h3 := mlp_l3 (g0.map rowOf) out (by omega) S.1.flatten (w : Int) (S.2.map (idxI w)) ((w * g0.length : Nat) : Int) (k0 : Int) _ (by rw [List.length_map, w64s (by omega)]; exact hn) (dscI out).length (Nat.le_refl _) (fun i h hi => absurd h (by omega))
   rw [hset, hsq]
   exact ev_if rfl (h1 h3)
/-- Both reckon the same numbers. -/
theorem pieces_both (w : Nat) (g : List (List Bool)) (h : IsG w g) : ∃ L : List Int, L.length ≤ 100 ∧ Ev (fun k => spec_mlPieces.f k (g.map rowOf)) L ∧ Ev (fun k => impl_pieces.f k (g.map rowOf)) L := by
 have hw := h.1
 have hgl := h.2.1
 have hn100 : w * g.length ≤ 10 * 10 := Nat.mul_le_mul hw.2 hgl.2
 refine ⟨dscI (piecesG w (w * g.length) 0 g), ?_, ?_, ?_⟩
 ·rw [dscI_len]
  exact Nat.le_trans (piecesG_len w _ 0 g) hn100
 ·unfold spec_mlPieces.f
  have h1 := mlp_l0 w g h (w * g.length) 0 g [] (by omega) h rfl (fun _ _ h => h) (by simp)
  refine Ev.bind (mlIs_ev w g h.1 h.2.1 h.2.2) ?_
  rw [show dscI [] = [] by unfold dscI; rw [List.mergeSort_nil]; rfl, List.nil_append] at h1
  rw [rd_row0 w g hgl.1 h.2.2, flat_len w g h.2.2]
  exact ev_if (by rw [List.length_map]; omega) h1
 ·unfold impl_pieces.f
  have h1 := pcOut_ev w g h.1 hgl.2 (w * g.length) 0 g [] (by omega) h rfl (fun _ _ _ _ _ => Nat.zero_le _) (by simp only [List.length_nil]; omega)
  rw [List.nil_append] at h1
  exact h1

/-! ### The most pieces while it melts -/
theorem rdII_hours (w : Nat) (op : Int) (g : List (List Bool)) (n i : Nat) (h : i < n) : rd_L5 (hoursI w op g n) (i : Int) = (placesG w op (itG w op g i)).map toI := by
 simp [rd_L5, hoursI, List.getD_eq_getElem?_getD, h]
theorem hoursI_len (w : Nat) (op : Int) (g : List (List Bool)) (n : Nat) : (hoursI w op g n).length = n := by simp [hoursI]
/-- The numbers of pieces behind each hour. -/
def PcN (w : Nat) (op : Int) (g : List (List Bool)) (f : Nat → Nat) : Prop := ∀ i, ∃ L : List Int, L.length = f i ∧ f i ≤ 100 ∧ Ev (fun k => spec_mlPieces.f k ((itG w op g i).map rowOf)) L ∧ Ev (fun k => impl_pieces.f k ((itG w op g i).map rowOf)) L
theorem pcN_is (w : Nat) (op : Int) (g : List (List Bool)) (h : IsG w g) : ∃ f, PcN w op g f := by
 have hx : ∀ i, ∃ n : Nat, ∃ L : List Int, L.length = n ∧ n ≤ 100 ∧ Ev (fun k => spec_mlPieces.f k ((itG w op g i).map rowOf)) L ∧ Ev (fun k => impl_pieces.f k ((itG w op g i).map rowOf)) L := by
  intro i
  obtain ⟨L, hL, hs, hi⟩ := pieces_both w _ (itG_is w op g h i)
  exact ⟨L.length, L, rfl, hL, hs, hi⟩
 exact ⟨fun i => Classical.choose (hx i), fun i => Classical.choose_spec (hx i)⟩
/-- The greatest number up to an hour, and when it is there for the first time. -/
def bestG (f : Nat → Nat) : Nat → Int × Int
 | 0 => ((f 0 : Int), 0)
 | i + 1 => if (f (i + 1) : Int) > (bestG f i).1 then ((f (i + 1) : Int), ((i + 1 : Nat) : Int)) else bestG f i
theorem mostS_l0 (w : Nat) (op : Int) (g : List (List Bool)) (f : Nat → Nat) (hf : PcN w op g f) (n : Nat) (hn : n ≤ 100) (d : Nat) : ∀ j, j + d = n →
  Ev (fun k => spec_MostPiecesWhile.l0 k (bestG f j).1 (bestG f j).2 (allS w op g (n + 1)) ((n + 1 : Nat) : Int) ((j + 1 : Nat) : Int)) ((bestG f n).1, (bestG f n).2, true) := by
 induction d with
 | zero =>
  intro j hj
  obtain rfl : j = n := by omega
  refine Ev.step (fun k => rfl) ?_
  simp only [spec_MostPiecesWhile.l0]
  exact ev_else (by omega) (Ev.now _)
 | succ d ih =>
  intro j hj
  have hnx := ih (j + 1) (by omega)
  obtain ⟨L, hL, _, hs, _⟩ := hf (j + 1)
  refine Ev.step (fun k => rfl) ?_
  simp only [spec_MostPiecesWhile.l0]
  rw [rdL5_all w op g (n + 1) (j + 1) (by omega), w64s (j := j + 1) (by omega), allS_len]
  refine ev_if (by omega) (ev_if (by omega) (ev_if (by omega) (Ev.bind hs ?_)))
  rw [hL]
  by_cases c : (f (j + 1) : Int) > (bestG f j).1
  ·rw [show bestG f (j + 1) = ((f (j + 1) : Int), ((j + 1 : Nat) : Int)) by rw [bestG, if_pos c]] at hnx
   exact ev_if c hnx
  ·rw [show bestG f (j + 1) = bestG f j by rw [bestG, if_neg c]] at hnx
   exact ev_else c hnx
theorem mostI_l0 (w : Nat) (op : Int) (g : List (List Bool)) (h : IsG w g) (f : Nat → Nat) (hf : PcN w op g f) (n : Nat) (hn : n ≤ 100) (d : Nat) : ∀ j, j + d = n →
  Ev (fun k => impl_MostPiecesWhile.l0 k ((itG w op g j).map rowOf) (bestG f j).1 (bestG f j).2 (hoursI w op g n) (n : Int) (j : Int)) ((bestG f n).1, (bestG f n).2, true) := by
 induction d with
 | zero =>
  intro j hj
  obtain rfl : j = n := by omega
  refine Ev.step (fun k => rfl) ?_
  simp only [impl_MostPiecesWhile.l0]
  exact ev_else (by omega) (Ev.now _)
 | succ d ih =>
  intro j hj
  have hnx := ih (j + 1) (by omega)
  obtain ⟨L, hL, _, _, hi⟩ := hf (j + 1)
  have hw := hourI_ev w op _ (itG_is w op g h j)
  refine Ev.step (fun k => rfl) ?_
  simp only [impl_MostPiecesWhile.l0]
  rw [rdII_hours w op g n j (by omega), w64s (j := j) (by omega), hoursI_len]
  refine ev_if (by omega) (ev_if (by omega) (ev_if (by omega) (Ev.bind hw (Ev.bind hi ?_))))
  rw [hL]
  by_cases c : (f (j + 1) : Int) > (bestG f j).1
  ·rw [show bestG f (j + 1) = ((f (j + 1) : Int), ((j + 1 : Nat) : Int)) by rw [bestG, if_pos c]] at hnx
   exact ev_if c hnx
  ·rw [show bestG f (j + 1) = bestG f j by rw [bestG, if_neg c]] at hnx
   exact ev_else c hnx
theorem most_both (l : List ByteArray) (hl : l.length ≤ 1048576) (op : Int) : ∃ q, Ev (fun k => spec_MostPiecesWhile.f k l op) q ∧ Ev (fun k => impl_MostPiecesWhile.f k l op) q := by
 have ha := asked_ev l hl op
 cases hg : (good l && decide (1 ≤ op ∧ op ≤ 4)) with
 | false =>
  rw [hg] at ha
  refine ⟨(0, 0, false), ?_, ?_⟩
  ·unfold spec_MostPiecesWhile.f
   exact Ev.bind ha (ev_else (by simp) (Ev.now _))
  ·unfold impl_MostPiecesWhile.f
   exact ev_bind (by rw [asked_eq, hg]) (ev_else (by simp) (Ev.now _))
 | true =>
  rw [hg] at ha
  obtain ⟨w, g, n, rfl, h, hn100, hne, hn⟩ := asked_is l op hg
  obtain ⟨f, hf⟩ := pcN_is w op g h
  obtain ⟨L, hL, _, hs, hi⟩ := hf 0
  refine ⟨((bestG f n).1, (bestG f n).2, true), ?_, ?_⟩
  ·unfold spec_MostPiecesWhile.f
   refine Ev.bind ha (ev_if rfl (Ev.bind (mlAll_ev w op g h n hn100 hne hn) ?_))
   refine Ev.step (fun k => rfl) ?_
   simp only [spec_MostPiecesWhile.l0]
   have e0 : rd_L3 (allS w op g (n + 1)) 0 = (itG w op g 0).map rowOf := rdL5_all w op g (n + 1) 0 (by omega)
   rw [e0, allS_len, show wrap64 (0 + 1) = ((0 + 1 : Nat) : Int) from (w64 (by omega) (by omega)).trans rfl]
   refine ev_if (by omega) (ev_if (by omega) (ev_if (by omega) (Ev.bind hs ?_)))
   rw [hL]
   have h1 := mostS_l0 w op g f hf n hn100 n 0 (by omega)
   exact ev_if (by omega) h1
  ·unfold impl_MostPiecesWhile.f
   refine ev_bind (by rw [asked_eq, hg]) (ev_if rfl (Ev.bind (melt_ev w op g h n hn100 hne hn) (Ev.bind hi ?_)))
   rw [hL, hoursI_len]
   exact mostI_l0 w op g h f hf n hn100 n 0 (by omega)
theorem FnExactMostPiecesWhile : laws_FnExactMostPiecesWhile.Pure := by
 intro l op h1 _ h3 _
 apply Ev.rounds (r := true)
 unfold laws_FnExactMostPiecesWhile.f
 obtain ⟨r, hr, hr2⟩ := szS_ev l h1 h3
 refine Ev.bind hr ?_
 by_cases c : r < 0
 ·exact ev_if c (Ev.now _)
 have hl := hr2 c
 obtain ⟨q, hs, hi⟩ := most_both l hl op
 refine ev_else c (Ev.bind (toS_ev l hl) (Ev.bind hs (Ev.bind (toS_ev l hl) (Ev.bind hi (ev_if rfl (ev_if rfl ?_))))))
 refine Ev.step (fun k => rfl) ?_
 simp only [laws_FnExactMostPiecesWhile.j0]
 exact ev_else (by simp) (Ev.bind (toS_ev l hl) (Ev.bind (eqStringS_self l hl) (ev_if rfl (Ev.now _))))

end Go.Proofs.YtaocnjaeaiacmaaDoor.Pure
