/- For all widths and heights the program's SolidTablet returns what the reference's SolidTablet returns, with rows that are its own. No condition. -/
import Derived.Test.YtghfhcmjnpjgdaaS15
namespace Go.Proofs.Ytghfhcmjnpjgdaa.Pure
open Go.RowKit Go.Proofs.Ytghfhcmjnpjgdaa.S Go.Proofs.YtghfhcmjnpjgdaaW.PrintWords Go.Proofs.YtghfhcmjnpjgdaaW.PrintLast
set_option linter.unusedVariables false
set_option linter.unusedSimpArgs false

theorem w64 {x : Int} (h0 : -9223372036854775808 ≤ x) (h1 : x ≤ 9223372036854775807) : wrap64 x = x := by
  unfold wrap64
  omega
theorem wf_i64 {x : Int} (h : (Lit.int .i64 x).wf = true) : -9223372036854775808 ≤ x ∧ x ≤ 9223372036854775807 := by
  have hmin : IntKind.i64.min = -9223372036854775808 := rfl
  have hmax : IntKind.i64.max = 9223372036854775807 := rfl
  simp only [Lit.wf, Bool.and_eq_true, decide_eq_true_eq] at h
  omega

theorem two {α β : Type} {g : Nat → Option α} {f : Nat → Option β} {a : α} {b : β} (h : Ev g a) (h' : Ev f b) : ∃ k, g k = some a ∧ f k = some b := by
  obtain ⟨K, h⟩ := h
  obtain ⟨K', h'⟩ := h'
  exact ⟨max K K', h _ (by omega), h' _ (by omega)⟩
theorem str_app (xs ys : List Int) : strOfNums (xs ++ ys) = strOfNums xs ++ strOfNums ys := by
  apply ByteArray.ext
  simp [strOfNums]
theorem str_nil : strOfNums [] = (⟨#[]⟩ : ByteArray) := rfl
theorem str_size (xs : List Int) : (strOfNums xs).size = xs.length := by simp [strOfNums, ByteArray.size]
theorem ba_nil_app (b : ByteArray) : (⟨#[]⟩ : ByteArray) ++ b = b := by
  apply ByteArray.ext
  simp
theorem ba_app_nil (b : ByteArray) : b ++ (⟨#[]⟩ : ByteArray) = b := by
  apply ByteArray.ext
  simp
theorem ba_assoc (a b c : ByteArray) : a ++ b ++ c = a ++ (b ++ c) := by
  apply ByteArray.ext
  simp
theorem ev_if {α : Type} {c : Prop} [Decidable c] {g f : Nat → Option α} {r : α} (hc : c) (h : Ev g r) : Ev (fun k => if c then g k else f k) r :=
  Ev.congr (fun k => if_pos hc) h
theorem ev_else {α : Type} {c : Prop} [Decidable c] {g f : Nat → Option α} {r : α} (hc : ¬ c) (h : Ev f r) : Ev (fun k => if c then g k else f k) r :=
  Ev.congr (fun k => if_neg hc) h
theorem ev_bind {α β : Type} {a : α} {o : Option α} {f : Nat → α → Option β} {r : β} (h : o = some a) (k : Ev (fun n => f n a) r) : Ev (fun n => o.bind (f n)) r :=
  Ev.congr (fun n => by rw [h]; rfl) k

theorem l1In_eq (a b c : Int) : spec_l1In.f a b c = some (decide (b ≤ a ∧ a ≤ c)) := by
  unfold spec_l1In.f
  by_cases h : b ≤ a
  · rw [if_pos (show a ≥ b from h)]; simp [h]
  · rw [if_neg (show ¬ a ≥ b from h)]; simp [h]
theorem within_eq (a b c : Int) : impl_within.f a b c = some (decide (b ≤ a ∧ a ≤ c)) := by
  unfold impl_within.f
  by_cases h : b ≤ a
  · rw [if_pos h]; simp [h]
  · rw [if_neg h]; simp [h]
theorem within_l1In (a b c : Int) : impl_within.f a b c = spec_l1In.f a b c := by rw [within_eq, l1In_eq]

/-! ### Texts -/
theorem w64s {j : Nat} (h : j < 9223372036854775807) : wrap64 ((j : Int) + 1) = ((j + 1 : Nat) : Int) := by
  rw [w64 (by omega) (by omega)]; omega
theorem rdOf_nat {α : Type} (d : α) (xs : List α) (j : Nat) (h : j < xs.length) : rdOf d xs (j : Int) = xs[j] := by
  simp [rdOf, List.getD_eq_getElem?_getD, List.getElem?_eq_getElem h]
theorem eqStringS_l0 (xs : List ByteArray) (hx : xs.length ≤ 1048576) (d : Nat) : ∀ j : Nat, j + d = xs.length → Ev (fun k => laws_eqStringS.l0 k xs xs (j : Int)) true := by
  induction d with
  | zero =>
    intro j hj
    refine Ev.step (fun k => rfl) ?_
    simp only [laws_eqStringS.l0]
    exact ev_else (by omega) (Ev.now _)
  | succ d ih =>
    intro j hj
    refine Ev.step (fun k => rfl) ?_
    simp only [laws_eqStringS.l0]
    refine ev_if (by omega) (ev_if (by omega) (ev_if (by omega) (ev_if ?_ ?_)))
    · first | rfl | trivial
    rw [w64s (by omega)]
    exact ih (j + 1) (by omega)
theorem eqStringS_self (xs : List ByteArray) (hx : xs.length ≤ 1048576) : Ev (fun k => laws_eqStringS.f k xs xs) true := by
  unfold laws_eqStringS.f
  exact ev_if rfl (eqStringS_l0 xs hx xs.length 0 (by omega))

theorem markText_l0 (d : Nat) : ∀ (m : Int) (s : ByteArray), m.toNat ≤ d → 0 ≤ m → d + s.size ≤ 1125899906842624 → ∃ t, Ev (fun k => laws_markText.l0 k m s) t := by
  induction d with
  | zero =>
    intro m s h1 h2 h3
    refine ⟨(⟨#[109]⟩ : ByteArray) ++ s, Ev.step (fun k => rfl) ?_⟩
    simp only [laws_markText.l0]
    exact ev_else (by omega) (ev_if (by omega) (Ev.now _))
  | succ d ih =>
    intro m s h1 h2 h3
    by_cases g : m > 0
    · have e : Int.tdiv m 10 = m / 10 := Int.tdiv_eq_ediv_of_nonneg h2
      have e2 : wrap64 (Int.tdiv m 10) = m / 10 := by rw [e]; exact w64 (by omega) (by omega)
      have e3 : (strOfNums [(wrap64 (48 + Int.tmod m 10)) % 256]).size = 1 := str_size _
      obtain ⟨t, ht⟩ := ih (m / 10) (strOfNums [(wrap64 (48 + Int.tmod m 10)) % 256] ++ s) (by omega) (by omega) (by rw [ByteArray.size_append, e3]; omega)
      refine ⟨t, Ev.step (fun k => rfl) ?_⟩
      simp only [laws_markText.l0]
      refine ev_if g (ev_bind rfl (ev_if (by rw [e3]; omega) ?_))
      rw [e2]
      exact ht
    · exact ih m s (by omega) h2 (by omega)
theorem markText_ev : ∃ T : Int → ByteArray, ∀ m : Int, m ≤ 1099511627776 → Ev (fun k => laws_markText.f k m) (T m) := by
  have h : ∀ m : Int, ∃ t, m ≤ 1099511627776 → Ev (fun k => laws_markText.f k m) t := by
    intro m
    by_cases g : m ≤ 0
    · refine ⟨(⟨#[109, 48]⟩ : ByteArray), fun _ => ?_⟩
      unfold laws_markText.f
      exact ev_if g (Ev.now _)
    · by_cases g2 : m ≤ 1099511627776
      · obtain ⟨t, ht⟩ := markText_l0 m.toNat m ⟨#[]⟩ (Nat.le_refl _) (by omega) (by rw [show (⟨#[]⟩ : ByteArray).size = 0 from rfl]; omega)
        refine ⟨t, fun _ => ?_⟩
        unfold laws_markText.f
        exact ev_else g ht
      · exact ⟨⟨#[]⟩, fun h => absurd h g2⟩
  exact ⟨fun m => Classical.choose (h m), fun m => Classical.choose_spec (h m)⟩
def marksOf (T : Int → ByteArray) (n : Nat) : List ByteArray := (List.range n).map fun (i : Nat) => T (1 + (i : Int))
theorem marksOf_len (T : Int → ByteArray) (n : Nat) : (marksOf T n).length = n := by simp [marksOf]
theorem markStringS_l0 {T : Int → ByteArray} (hT : ∀ m : Int, m ≤ 1099511627776 → Ev (fun k => laws_markText.f k m) (T m)) (n : Nat) (hn : n ≤ 1048576) (d : Nat) : ∀ (j : Nat) (ys : List ByteArray), ys.length = n → (∀ i (h : i < ys.length), i < j → ys[i] = T (1 + (i : Int))) → j + d = n →
    Ev (fun k => laws_markStringS.l0 k ys (1 + (j : Int)) (j : Int)) (1 + (n : Int), marksOf T n) := by
  induction d with
  | zero =>
    intro j ys hl hv hj
    obtain rfl : j = n := by omega
    have e : ys = marksOf T j := List.ext_getElem (by rw [hl, marksOf_len]) (fun i h h' => by rw [hv i h (by omega)]; simp [marksOf])
    refine Ev.step (fun k => rfl) ?_
    simp only [laws_markStringS.l0]
    rw [e]
    exact ev_else (by rw [marksOf_len]; omega) (Ev.now _)
  | succ d ih =>
    intro j ys hl hv hj
    have h := ih (j + 1) (ys.set j (T (1 + (j : Int)))) (by simp [hl]) (by
      intro i h hi
      rw [List.getElem_set]
      by_cases e : j = i
      · subst e; simp
      · rw [if_neg e]; exact hv i (by simpa using h) (by omega)) (by omega)
    rw [show 1 + ((j + 1 : Nat) : Int) = 1 + (j : Int) + 1 by omega] at h
    refine Ev.step (fun k => rfl) ?_
    simp only [laws_markStringS.l0]
    refine ev_if (by omega) (Ev.bind (hT _ (by omega)) (ev_if (by omega) ?_))
    rw [Int.toNat_natCast, w64 (x := 1 + (j : Int) + 1) (by omega) (by omega), w64s (by omega)]
    exact h
theorem markStringS_ev {T : Int → ByteArray} (hT : ∀ m : Int, m ≤ 1099511627776 → Ev (fun k => laws_markText.f k m) (T m)) (xs : List ByteArray) (hn : xs.length ≤ 1048576) : Ev (fun k => laws_markStringS.f k xs 1) (1 + (xs.length : Int), marksOf T xs.length) :=
  markStringS_l0 hT xs.length hn xs.length 0 xs rfl (fun i _ hi => absurd hi (Nat.not_lt_zero _)) (by omega)
theorem heldStringS_l0 {T : Int → ByteArray} (hT : ∀ m : Int, m ≤ 1099511627776 → Ev (fun k => laws_markText.f k m) (T m)) (n : Nat) (hn : n ≤ 1048576) (d : Nat) : ∀ (j : Nat), j + d = n →
    Ev (fun k => laws_heldStringS.l0 k (marksOf T n) (1 + (j : Int)) (j : Int)) (1 + (n : Int)) := by
  have hl := marksOf_len T n
  induction d with
  | zero =>
    intro j hj
    obtain rfl : j = n := by omega
    refine Ev.step (fun k => rfl) ?_
    simp only [laws_heldStringS.l0]
    exact ev_else (by omega) (Ev.now _)
  | succ d ih =>
    intro j hj
    have h := ih (j + 1) (by omega)
    rw [show 1 + ((j + 1 : Nat) : Int) = 1 + (j : Int) + 1 by omega] at h
    refine Ev.step (fun k => rfl) ?_
    simp only [laws_heldStringS.l0]
    refine ev_if (by omega) (ev_if (by omega) (Ev.bind (hT _ (by omega)) (ev_if ?_ ?_)))
    · rw [rdOf_nat _ _ j (by omega)]; simp [marksOf]
    rw [w64 (x := 1 + (j : Int) + 1) (by omega) (by omega), w64s (by omega)]
    exact h
theorem heldStringS_ev {T : Int → ByteArray} (hT : ∀ m : Int, m ≤ 1099511627776 → Ev (fun k => laws_markText.f k m) (T m)) (n : Nat) (hn : n ≤ 1048576) : Ev (fun k => laws_heldStringS.f k (marksOf T n) 1) (1 + (n : Int)) :=
  heldStringS_l0 hT n hn n 0 (by omega)

/-! ### Tablets -/
def bt (b : Bool) : UInt8 := if b then 35 else 46
/-- A row's text. -/
def rowOf (r : List Bool) : ByteArray := ⟨(r.map bt).toArray⟩
theorem rowOf_size (r : List Bool) : (rowOf r).size = r.length := by simp [rowOf, ByteArray.size]
theorem rowOf_snoc (r : List Bool) (b : Bool) : rowOf (r ++ [b]) = rowOf r ++ (⟨#[bt b]⟩ : ByteArray) := by
  apply ByteArray.ext
  simp [rowOf]
theorem mlOf_l1 (w : Int) (is : List Bool) (out : List ByteArray) (fr : Int) (r : List Bool) (hr : r.length ≤ 1000000) (ho : out.length < 8796093022208) (R : List ByteArray)
    (hE : Ev (fun k => spec_mlOf.l0 k w is (out ++ [rowOf r]) (wrap64 (fr + w))) R) (d : Nat) : ∀ j : Nat, j + d = r.length → Ev (fun k => spec_mlOf.l1 k w is out fr (rowOf (r.take j)) r (r.length : Int) (j : Int)) R := by
  induction d with
  | zero =>
    intro j hj
    refine Ev.step (fun k => rfl) ?_
    simp only [spec_mlOf.l1]
    rw [List.take_of_length_le (by omega)]
    exact ev_else (by omega) (ev_if ho hE)
  | succ d ih =>
    intro j hj
    have hl : j < r.length := by omega
    have e1 : rowOf (r.take (j + 1)) = rowOf (r.take j) ++ (⟨#[bt r[j]]⟩ : ByteArray) := by
      rw [List.take_succ_eq_append_getElem hl, rowOf_snoc]
    have hs : (rowOf (r.take j)).size ≤ 1000000 := by rw [rowOf_size, List.length_take]; omega
    have h := ih (j + 1) (by omega)
    rw [e1] at h
    refine Ev.step (fun k => rfl) ?_
    simp only [spec_mlOf.l1]
    refine ev_if (by omega) (ev_if (by omega) (ev_if (by omega) ?_))
    rw [rdOf_nat _ _ j hl, w64s (by omega)]
    cases hb : r[j] with
    | true => rw [hb] at h; exact ev_if rfl (ev_if (by omega) h)
    | false => rw [hb] at h; exact ev_else (by simp) (ev_if (by omega) h)
theorem flat_len (w : Nat) (rows : List (List Bool)) (h : ∀ r ∈ rows, r.length = w) : rows.flatten.length = w * rows.length := by
  induction rows with
  | nil => simp
  | cons r rows ih =>
    rw [List.flatten_cons, List.length_append, List.length_cons, ih (fun s hs => h s (List.mem_cons_of_mem _ hs)), h r (by simp), Nat.mul_succ]
    omega
theorem flat_slice (w : Nat) (rows : List (List Bool)) (h : ∀ r ∈ rows, r.length = w) (j : Nat) (hj : j < rows.length) : (rows.flatten.take (w * j + w)).drop (w * j) = rows[j] := by
  have e : rows = rows.take j ++ rows[j] :: rows.drop (j + 1) := by
    rw [← List.drop_eq_getElem_cons hj, List.take_append_drop]
  have h1 : (rows.take j).flatten.length = w * j := by
    rw [flat_len w _ (fun r hr => h r (List.mem_of_mem_take hr)), List.length_take, Nat.min_eq_left (by omega)]
  have h2 : rows[j].length = w := h _ (List.getElem_mem hj)
  have e2 : rows.flatten = (rows.take j).flatten ++ (rows[j] ++ (rows.drop (j + 1)).flatten) := by
    conv => lhs; rw [e]
    rw [List.flatten_append, List.flatten_cons]
  rw [e2, List.take_append, h1, List.take_of_length_le (l := (rows.take j).flatten) (by rw [h1]; omega), show w * j + w - w * j = w by omega, List.take_append, List.take_of_length_le (l := rows[j]) (by omega), h2, Nat.sub_self, List.take_zero, List.append_nil]
  rw [← h1, List.drop_left]
theorem mlOf_l0 (w : Nat) (hw : 1 ≤ w ∧ w ≤ 1000) (rows : List (List Bool)) (hn : rows.length ≤ 1000) (h : ∀ r ∈ rows, r.length = w) (d : Nat) : ∀ j : Nat, j + d = rows.length →
    Ev (fun k => spec_mlOf.l0 k (w : Int) rows.flatten ((rows.take j).map rowOf) ((w * j : Nat) : Int)) (rows.map rowOf) := by
  have hf := flat_len w rows h
  have hb : w * rows.length ≤ 1000 * 1000 := Nat.mul_le_mul hw.2 hn
  induction d with
  | zero =>
    intro j hj
    obtain rfl : j = rows.length := by omega
    refine Ev.step (fun k => rfl) ?_
    simp only [spec_mlOf.l0]
    rw [List.take_of_length_le (Nat.le_refl _)]
    exact ev_else (by omega) (Ev.now _)
  | succ d ih =>
    intro j hj
    have hl : j < rows.length := by omega
    have hm : w * (j + 1) ≤ w * rows.length := Nat.mul_le_mul_left _ (by omega)
    rw [Nat.mul_succ] at hm
    have hn2 := ih (j + 1) (by omega)
    rw [Nat.mul_succ, List.take_succ_eq_append_getElem hl, List.map_append] at hn2
    have hs := flat_slice w rows h j hl
    obtain ⟨p, hp⟩ : ∃ p, p = w * j := ⟨_, rfl⟩
    rw [← hp] at hm hn2 hs ⊢
    have e1 : wrap64 ((p : Int) + (w : Int)) = ((p + w : Nat) : Int) := by rw [w64 (by omega) (by omega)]; omega
    refine Ev.step (fun k => rfl) ?_
    simp only [spec_mlOf.l0]
    rw [e1, Int.toNat_natCast, Int.toNat_natCast, hs]
    refine ev_if (by omega) (ev_if (by omega) (ev_if (by omega) (ev_if (by omega) ?_)))
    have hr := h _ (List.getElem_mem hl)
    exact mlOf_l1 (w : Int) rows.flatten _ (p : Int) rows[j] (by omega) (by rw [List.length_map, List.length_take]; omega) _ (by rw [e1]; exact hn2) rows[j].length 0 (by omega)
theorem mlOf_ev (w : Nat) (hw : 1 ≤ w ∧ w ≤ 1000) (rows : List (List Bool)) (hn : rows.length ≤ 1000) (h : ∀ r ∈ rows, r.length = w) : Ev (fun k => spec_mlOf.f k (w : Int) rows.flatten) (rows.map rowOf) :=
  mlOf_l0 w hw rows hn h rows.length 0 (by omega)

theorem solid_l0 (w : Nat) (hw : 1 ≤ w ∧ w ≤ 10) (h : Nat) (hh : h ≤ 10) (d : Nat) : ∀ j : Nat, j + d = w * h → Ev (fun k => spec_SolidTablet.l0 k (w : Int) (List.replicate j true ++ List.replicate d false) ((w * h : Nat) : Int) (j : Int)) ((List.replicate h (List.replicate w true)).map rowOf, true) := by
  have hb : w * h ≤ 10 * 10 := Nat.mul_le_mul hw.2 hh
  induction d with
  | zero =>
    intro j hj
    refine Ev.step (fun k => rfl) ?_
    simp only [spec_SolidTablet.l0]
    refine ev_else (by omega) ?_
    have e : List.replicate j true ++ List.replicate 0 false = (List.replicate h (List.replicate w true)).flatten := by
      rw [List.flatten_replicate_replicate, List.replicate_zero, List.append_nil]
      congr 1
      rw [Nat.mul_comm]; omega
    rw [e]
    exact Ev.bind (mlOf_ev w (by omega) _ (by simp; omega) (by intro r hr; rw [List.mem_replicate] at hr; rw [hr.2]; simp)) (Ev.now _)
  | succ d ih =>
    intro j hj
    have e : (List.replicate j true ++ List.replicate (d + 1) false).set j true = List.replicate (j + 1) true ++ List.replicate d false := by
      rw [List.set_append, if_neg (by simp)]
      simp only [List.length_replicate, Nat.sub_self, List.replicate_succ, List.set_cons_zero]
      rw [← List.replicate_succ, ← List.replicate_append_replicate (n := j) (m := 1), List.append_assoc]
      rfl
    refine Ev.step (fun k => rfl) ?_
    simp only [spec_SolidTablet.l0]
    refine ev_if (by omega) (ev_if (by omega) (ev_if (by simp; omega) ?_))
    rw [Int.toNat_natCast, e, w64s (by omega)]
    exact ih (j + 1) (by omega)
theorem rep_row (w : Nat) : (⟨(Lib.repeatL (⟨#[35]⟩ : ByteArray).data.toList w).toArray⟩ : ByteArray) = rowOf (List.replicate w true) := by
  apply ByteArray.ext
  simp only [rowOf]
  congr 1
  induction w with
  | zero => rfl
  | succ w ih => rw [Lib.repeatL, ih, List.replicate_succ]; rfl
theorem solid_both (a b : Int) : ∃ L : List ByteArray, ∃ ok : Bool, L.length ≤ 10 ∧ Ev (fun k => spec_SolidTablet.f k a b) (L, ok) ∧ Ev (fun k => impl_SolidTablet.f k a b) (L, ok) := by
  unfold spec_SolidTablet.f impl_SolidTablet.f
  simp only [l1In_eq, within_eq, Option.bind_some]
  by_cases ha : 1 ≤ a ∧ a ≤ 10
  · by_cases hb : 1 ≤ b ∧ b ≤ 10
    · obtain ⟨w, rfl⟩ := Int.eq_ofNat_of_zero_le (show 0 ≤ a by omega)
      obtain ⟨h, rfl⟩ := Int.eq_ofNat_of_zero_le (show 0 ≤ b by omega)
      have hwh : w * h ≤ 10 * 10 := Nat.mul_le_mul (by omega) (by omega)
      refine ⟨(List.replicate h (List.replicate w true)).map rowOf, true, by simp; omega, ?_, ?_⟩
      · refine ev_if (by simpa using ha) ?_
        rw [decide_eq_true hb]
        refine Ev.step (fun k => rfl) ?_
        simp only [spec_SolidTablet.j0]
        have e : wrap64 ((w : Int) * (h : Int)) = ((w * h : Nat) : Int) := by
          rw [show (w : Int) * (h : Int) = ((w * h : Nat) : Int) from rfl]
          exact w64 (by omega) (by omega)
        rw [e, Int.toNat_natCast]
        refine ev_else (by simp) (ev_if (by omega) (ev_if (by omega) (ev_bind rfl ?_)))
        rw [List.length_replicate]
        exact solid_l0 w (by omega) h (by omega) (w * h) 0 (by omega)
      · refine ev_if (by simpa using ha) ?_
        rw [decide_eq_true hb]
        refine Ev.step (fun k => rfl) ?_
        simp only [impl_SolidTablet.j0]
        refine ev_else (by simp) (ev_bind (a := rowOf (List.replicate w true)) ?_ (ev_bind (a := (List.replicate h (List.replicate w true)).map rowOf) ?_ (Ev.now _)))
        · unfold strings_Repeat.f
          rw [if_pos ⟨by omega, by omega, by decide⟩, Int.toNat_natCast, rep_row]
        · unfold slices_Repeat_string_string.f
          rw [if_pos (show [rowOf (List.replicate w true)].length = 1 from rfl), if_pos (by omega), if_pos (by omega), Int.toNat_natCast, List.map_replicate]
          rfl
    · refine ⟨[], false, by simp, ?_, ?_⟩
      · refine ev_if (by simpa using ha) ?_
        rw [decide_eq_false hb]
        refine Ev.step (fun k => rfl) ?_
        simp only [spec_SolidTablet.j0]
        exact ev_if rfl (Ev.now _)
      · refine ev_if (by simpa using ha) ?_
        rw [decide_eq_false hb]
        refine Ev.step (fun k => rfl) ?_
        simp only [impl_SolidTablet.j0]
        exact ev_if rfl (Ev.now _)
  · refine ⟨[], false, by simp, ?_, ?_⟩
    · refine ev_else (by simpa using ha) ?_
      refine Ev.step (fun k => rfl) ?_
      simp only [spec_SolidTablet.j0]
      exact ev_if trivial (Ev.now _)
    · refine ev_else (by simpa using ha) ?_
      refine Ev.step (fun k => rfl) ?_
      simp only [impl_SolidTablet.j0]
      exact ev_if trivial (Ev.now _)
theorem FnExactSolidTablet : laws_FnExactSolidTablet.Pure := by
  intro a b _ _
  apply Ev.rounds (r := true)
  obtain ⟨T, hT⟩ := markText_ev
  obtain ⟨L, ok, hL, hs, hi⟩ := solid_both a b
  unfold laws_FnExactSolidTablet.f
  refine Ev.bind hs (Ev.bind hi (Ev.bind (eqStringS_self L (by omega)) (ev_if rfl ?_)))
  refine Ev.step (fun k => rfl) ?_
  simp only [laws_FnExactSolidTablet.j0]
  refine ev_else (by simp) (Ev.bind (markStringS_ev hT L (by omega)) (Ev.bind (heldStringS_ev hT L.length (by omega)) (ev_else (by omega) (ev_if rfl (Ev.bind hi (Ev.bind (eqStringS_self L (by omega)) (ev_if rfl ?_)))))))
  refine Ev.step (fun k => rfl) ?_
  simp only [laws_FnExactSolidTablet.j1]
  exact ev_else (by simp) (Ev.bind (heldStringS_ev hT L.length (by omega)) (ev_else (by omega) (ev_if rfl (Ev.now _))))

end Go.Proofs.Ytghfhcmjnpjgdaa.Pure
