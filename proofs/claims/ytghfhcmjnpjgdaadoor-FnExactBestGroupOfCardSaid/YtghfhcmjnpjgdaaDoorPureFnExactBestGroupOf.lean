/- For all arguments the program's BestGroupOf returns what the reference's BestGroupOf returns. No condition. -/
import Derived.Test.YtghfhcmjnpjgdaaDoorX4
namespace Go.Proofs.YtghfhcmjnpjgdaaDoor.Pure
open Go.RowKit Go.Proofs.YtghfhcmjnpjgdaaDoor.X Go.Proofs.YtghfhcmjnpjgdaaDoorW.PrintWords Go.Proofs.YtghfhcmjnpjgdaaDoorW.PrintLast
set_option linter.unusedVariables false
set_option linter.unusedSimpArgs false

theorem w64 {x : Int} (h0 : -9223372036854775808 ≤ x) (h1 : x ≤ 9223372036854775807) : wrap64 x = x := by
  unfold wrap64
  omega
theorem wf_i64 {x : Int} (h : (Lit.int .i64 x).wf = true) : -9223372036854775808 ≤ x ∧ x ≤ 9223372036854775807 := by
  have hmin : IntKind.i64.min = -9223372036854775808 := rfl
  have hmax : IntKind.i64.max = 9223372036854775807 := rfl
  simp only [Lit.wf, Bool.and_eq_true, decide_eq_true_eq] at h
  omega

theorem two {α β : Type} {g : Nat → Option α} {f : Nat → Option β} {a : α} {b : β} (h : Ev g a) (h' : Ev f b) : ∃ k, g k = some a ∧ f k = some b := by
  obtain ⟨K, h⟩ := h
  obtain ⟨K', h'⟩ := h'
  exact ⟨max K K', h _ (by omega), h' _ (by omega)⟩
theorem str_app (xs ys : List Int) : strOfNums (xs ++ ys) = strOfNums xs ++ strOfNums ys := by
  apply ByteArray.ext
  simp [strOfNums]
theorem str_nil : strOfNums [] = (⟨#[]⟩ : ByteArray) := rfl
theorem str_size (xs : List Int) : (strOfNums xs).size = xs.length := by simp [strOfNums, ByteArray.size]
theorem ba_nil_app (b : ByteArray) : (⟨#[]⟩ : ByteArray) ++ b = b := by
  apply ByteArray.ext
  simp
theorem ba_app_nil (b : ByteArray) : b ++ (⟨#[]⟩ : ByteArray) = b := by
  apply ByteArray.ext
  simp
theorem ba_assoc (a b c : ByteArray) : a ++ b ++ c = a ++ (b ++ c) := by
  apply ByteArray.ext
  simp
theorem ev_if {α : Type} {c : Prop} [Decidable c] {g f : Nat → Option α} {r : α} (hc : c) (h : Ev g r) : Ev (fun k => if c then g k else f k) r :=
  Ev.congr (fun k => if_pos hc) h
theorem ev_else {α : Type} {c : Prop} [Decidable c] {g f : Nat → Option α} {r : α} (hc : ¬ c) (h : Ev f r) : Ev (fun k => if c then g k else f k) r :=
  Ev.congr (fun k => if_neg hc) h
theorem ev_bind {α β : Type} {a : α} {o : Option α} {f : Nat → α → Option β} {r : β} (h : o = some a) (k : Ev (fun n => f n a) r) : Ev (fun n => o.bind (f n)) r :=
  Ev.congr (fun n => by rw [h]; rfl) k

theorem l1In_eq (a b c : Int) : spec_l1In.f a b c = some (decide (b ≤ a ∧ a ≤ c)) := by
  unfold spec_l1In.f
  by_cases h : b ≤ a
  · rw [if_pos (show a ≥ b from h)]; simp [h]
  · rw [if_neg (show ¬ a ≥ b from h)]; simp [h]
theorem within_eq (a b c : Int) : impl_within.f a b c = some (decide (b ≤ a ∧ a ≤ c)) := by
  unfold impl_within.f
  by_cases h : b ≤ a
  · rw [if_pos h]; simp [h]
  · rw [if_neg h]; simp [h]
theorem within_l1In (a b c : Int) : impl_within.f a b c = spec_l1In.f a b c := by rw [within_eq, l1In_eq]

/-! ### Bytes of a text -/
theorem w64s {j : Nat} (h : j < 9223372036854775807) : wrap64 ((j : Int) + 1) = ((j + 1 : Nat) : Int) := by
  rw [w64 (by omega) (by omega)]; omega
theorem sz_list (s : ByteArray) : s.data.toList.length = s.size := by rw [Array.length_toList]; rfl
theorem bt_list (s : ByteArray) (j : Nat) (h : j < s.data.toList.length) : bt s (j : Int) = ((s.data.toList[j]'h).toNat : Int) := by
  rw [sz_list] at h
  unfold bt
  rw [dif_pos (by rw [Int.toNat_natCast]; exact h)]
  simp only [Int.toNat_natCast]
  rfl
theorem u8_eq (b : UInt8) (n : Nat) (c : UInt8) (hc : c.toNat = n) : ((b.toNat : Int) = (n : Int)) ↔ b = c := by
  constructor
  · intro h
    apply UInt8.toNat_inj.mp
    omega
  · rintro rfl
    rw [hc]
/-- The signs of a box. -/
def okByte (b : UInt8) : Bool := b == 111 || b == 120
def okBox (s : ByteArray) : Bool := decide (1 ≤ (s.size : Int) ∧ (s.size : Int) ≤ 60) && s.data.toList.all okByte
theorem bxBox_l0 (s : ByteArray) (hs : s.size ≤ 1048576) (d : Nat) : ∀ j : Nat, j + d = s.size → Ev (fun k => spec_bxBox.l0 k s (j : Int)) ((s.data.toList.drop j).all okByte) := by
  have hl := sz_list s
  induction d with
  | zero =>
    intro j hj
    refine Ev.step (fun k => rfl) ?_
    simp only [spec_bxBox.l0]
    rw [List.drop_of_length_le (by omega)]
    exact ev_else (by omega) (Ev.now _)
  | succ d ih =>
    intro j hj
    have hj' : j < s.data.toList.length := by omega
    rw [List.drop_eq_getElem_cons hj', List.all_cons]
    refine Ev.step (fun k => rfl) ?_
    simp only [spec_bxBox.l0]
    rw [bt_list s j hj', w64s (by omega)]
    have h1 := u8_eq (s.data.toList[j]) 111 111 rfl
    have h2 := u8_eq (s.data.toList[j]) 120 120 rfl
    refine ev_if (by omega) (ev_if (by omega) ?_)
    by_cases c1 : s.data.toList[j] = 111
    · have e : okByte s.data.toList[j] = true := by rw [c1]; rfl
      rw [e, Bool.true_and]
      exact ev_if (h1.mpr c1) (ih (j + 1) (by omega))
    · by_cases c2 : s.data.toList[j] = 120
      · have e : okByte s.data.toList[j] = true := by rw [c2]; rfl
        rw [e, Bool.true_and]
        exact ev_else (fun h => c1 (h1.mp h)) (ev_if (h2.mpr c2) (ih (j + 1) (by omega)))
      · have e : okByte s.data.toList[j] = false := by unfold okByte; rw [beq_false_of_ne c1, beq_false_of_ne c2]; rfl
        rw [e, Bool.false_and]
        exact ev_else (fun h => c1 (h1.mp h)) (ev_else (fun h => c2 (h2.mp h)) (Ev.now _))
theorem bxBox_ev (s : ByteArray) (hs : s.size ≤ 1048576) : Ev (fun k => spec_bxBox.f k s) (okBox s) := by
  unfold spec_bxBox.f okBox
  rw [l1In_eq]
  simp only [Option.bind_some]
  by_cases h : 1 ≤ (s.size : Int) ∧ (s.size : Int) ≤ 60
  · rw [decide_eq_true h, Bool.true_and]
    exact ev_if rfl (bxBox_l0 s hs s.size 0 (by omega))
  · rw [decide_eq_false h, Bool.false_and]
    exact ev_else (by simp) (Ev.now _)
theorem dw_nil {α : Type} (p : α → Bool) (l : List α) : l.all p = true → l.dropWhile p = [] := by
  induction l with
  | nil => intro _; rfl
  | cons a l ih =>
    intro h
    rw [List.all_cons, Bool.and_eq_true] at h
    rw [List.dropWhile_cons, if_pos h.1]
    exact ih h.2
theorem dw_all {α : Type} (p : α → Bool) (l : List α) : (l.dropWhile p).all p = true → l.all p = true := by
  induction l with
  | nil => intro _; rfl
  | cons a l ih =>
    intro h
    rw [List.dropWhile_cons] at h
    by_cases c : p a = true
    · rw [if_pos c] at h
      rw [List.all_cons, c, ih h]; rfl
    · rw [if_neg c] at h
      exact h
theorem trimS_all (l cs : List UInt8) : (Lib.trimS l cs == []) = l.all (cs.contains ·) := by
  cases h : l.all (cs.contains ·) with
  | true =>
    have hr : l.reverse.all (cs.contains ·) = true := by rw [List.all_reverse]; exact h
    have e : Lib.trimRightS l cs = [] := by
      unfold Lib.trimRightS
      rw [dw_nil _ _ hr]; rfl
    unfold Lib.trimS
    rw [e]
    rfl
  | false =>
    rw [beq_eq_false_iff_ne]
    intro e
    have h1 : (Lib.trimRightS l cs).all (cs.contains ·) = true := by
      refine dw_all _ _ ?_
      have e' : List.dropWhile (cs.contains ·) (Lib.trimRightS l cs) = [] := e
      rw [e']
      rfl
    have h2 : (l.reverse.dropWhile (cs.contains ·)).all (cs.contains ·) = true := by
      have h3 := h1
      unfold Lib.trimRightS at h3
      rw [List.all_reverse] at h3
      exact h3
    have h4 := dw_all _ _ h2
    rw [List.all_reverse, h] at h4
    cases h4
theorem isTested_eq (s : ByteArray) (hs : s.size ≤ 1048576) : impl_isTested.f s = some (okBox s) := by
  unfold impl_isTested.f okBox
  rw [within_eq]
  simp only [Option.bind_some]
  by_cases h : 1 ≤ (s.size : Int) ∧ (s.size : Int) ≤ 60
  · rw [decide_eq_true h, if_pos rfl, Bool.true_and]
    unfold strings_Trim.f
    rw [if_pos ⟨by omega, by decide, by decide⟩]
    simp only [Option.bind_some, Option.some.injEq]
    rw [ByteArray.toList_eq]
    show (Lib.trimS s.data.toList [111, 120] == []) = _
    rw [trimS_all]
    congr 1
    funext b
    unfold okByte
    rw [List.contains_cons, List.contains_cons, List.contains_nil, Bool.or_false]
  · rw [decide_eq_false h, if_neg (by simp), Bool.false_and]

/-! ### Tests of a box -/
theorem indexByte_has (l : List UInt8) (c : UInt8) : decide (0 ≤ Lib.indexByte l c) = l.contains c := by
  induction l with
  | nil => rfl
  | cons b l ih =>
    have hg := Lib.indexByte_ge l c
    rw [List.contains_cons]
    unfold Lib.indexByte
    by_cases h : b = c
    · subst h; simp
    · have h' : ¬ c = b := fun e => h e.symm
      rw [if_neg (by simpa using h)]
      rw [show (c == b) = false from beq_false_of_ne h', Bool.false_or, ← ih]
      apply decide_eq_decide.mpr
      by_cases e : Lib.indexByte l c = -1
      · rw [if_pos (by simpa using e)]; omega
      · rw [if_neg (by simpa using e)]; omega
/-- Is there a bitter one from lo up to hi? -/
def hasX (s : ByteArray) (lo hi : Nat) : Bool := ((s.data.toList.take hi).drop lo).contains 120
theorem hasX_step (s : ByteArray) (j hi : Nat) (h : j < hi) (hh : hi ≤ s.size) : hasX s j hi = ((s.data.toList[j]'(by rw [sz_list]; omega)) == 120 || hasX s (j + 1) hi) := by
  have hl := sz_list s
  unfold hasX
  have hj : j < (s.data.toList.take hi).length := by rw [List.length_take]; omega
  rw [List.drop_eq_getElem_cons hj, List.contains_cons, List.getElem_take]
  congr 1
  exact Bool.beq_comm
def tst (s : ByteArray) (g : Nat) : Nat → Nat → Nat
  | 0, _ => 0
  | d + 1, fr => if fr < s.size then 1 + (if 1 < min (fr + g) s.size - fr ∧ hasX s fr (min (fr + g) s.size) = true then min (fr + g) s.size - fr else 0) + tst s g d (fr + g) else 0
theorem least_eq (a b : Int) : spec_l1Least.f a b = some (if a < b then a else b) := by unfold spec_l1Least.f; split <;> rfl
theorem bxTests_l1 (s : ByteArray) (hs : s.size ≤ 1048576) (g : Nat) (hg : g ≤ 1048576) (acc : Int) (fr hi : Nat) (hh : hi ≤ s.size) (hf : fr ≤ hi) (R : Int) (b0 : Bool)
    (hE : Ev (fun k => spec_bxTests.l0 k s (g : Int) (wrap64 (acc + (if 1 < hi - fr ∧ b0 = true then ((hi - fr : Nat) : Int) else 0))) ((fr + g : Nat) : Int)) R) (ha : 0 ≤ acc ∧ acc ≤ 1000000000) (d : Nat) :
    ∀ (j : Nat) (b : Bool), j + d = hi → (b || hasX s j hi) = b0 → Ev (fun k => spec_bxTests.l1 k s (g : Int) acc (fr : Int) (hi : Int) b (j : Int)) R := by
  have hl := sz_list s
  induction d with
  | zero =>
    intro j b hj hb
    obtain rfl : j = hi := by omega
    have e0 : hasX s j j = false := by
      unfold hasX
      rw [List.drop_of_length_le (by rw [List.length_take]; omega)]
      rfl
    rw [e0, Bool.or_false] at hb
    subst hb
    refine Ev.step (fun k => rfl) ?_
    simp only [spec_bxTests.l1]
    refine ev_else (by omega) ?_
    have e1 : wrap64 ((j : Int) - (fr : Int)) = ((j - fr : Nat) : Int) := by rw [w64 (by omega) (by omega)]; omega
    have e2 : wrap64 ((fr : Int) + (g : Int)) = ((fr + g : Nat) : Int) := by rw [w64 (by omega) (by omega)]; omega
    rw [e1, e2]
    by_cases c : 1 < j - fr
    · refine ev_if (by omega) ?_
      cases b with
      | true => rw [if_pos ⟨c, rfl⟩] at hE; exact ev_if rfl hE
      | false =>
        rw [if_neg (fun h => by cases h.2), Int.add_zero, w64 (by omega) (by omega)] at hE
        exact ev_else (by simp) hE
    · refine ev_else (by omega) ?_
      rw [if_neg (fun h => c h.1), Int.add_zero, w64 (by omega) (by omega)] at hE
      exact hE
  | succ d ih =>
    intro j b hj hb
    have hj' : j < s.data.toList.length := by omega
    rw [hasX_step s j hi (by omega) hh] at hb
    refine Ev.step (fun k => rfl) ?_
    simp only [spec_bxTests.l1]
    rw [bt_list s j hj', w64s (by omega)]
    refine ev_if (by omega) ?_
    cases b with
    | true => exact ev_if rfl (ih (j + 1) true (by omega) (by simpa using hb))
    | false =>
      refine ev_else (by simp) (ev_if (by omega) (ev_if (by omega) (ih (j + 1) _ (by omega) ?_)))
      have e : (((s.data.toList[j].toNat : Int)) == 120) = (s.data.toList[j] == 120) := by
        have h2 := u8_eq (s.data.toList[j]) 120 120 rfl
        by_cases c2 : s.data.toList[j] = 120
        · rw [c2]; rfl
        · have c3 : ¬ ((s.data.toList[j].toNat : Int) = 120) := fun h => c2 (h2.mp h)
          rw [beq_false_of_ne c3, beq_false_of_ne c2]
      rw [e]
      simpa using hb
theorem bxTests_l0 (s : ByteArray) (hs : s.size ≤ 1048576) (g : Nat) (hg0 : 1 ≤ g) (hg : g ≤ 1048576) (d : Nat) : ∀ (fr : Nat) (acc : Nat), s.size < fr + d → fr ≤ s.size + g → acc ≤ 2 * fr →
    Ev (fun k => spec_bxTests.l0 k s (g : Int) (acc : Int) (fr : Int)) ((acc + tst s g d fr : Nat) : Int) := by
  induction d with
  | zero =>
    intro fr acc h1 h2 h3
    refine Ev.step (fun k => rfl) ?_
    simp only [spec_bxTests.l0]
    exact ev_else (by omega) (Ev.now _)
  | succ d ih =>
    intro fr acc h1 h2 h3
    refine Ev.step (fun k => rfl) ?_
    simp only [spec_bxTests.l0, tst]
    by_cases c : fr < s.size
    · rw [if_pos c]
      refine ev_if (by omega) (ev_bind (least_eq _ _) ?_)
      obtain ⟨hi, hhi⟩ : ∃ hi, hi = min (fr + g) s.size := ⟨_, rfl⟩
      rw [← hhi]
      have e1 : (if wrap64 ((fr : Int) + (g : Int)) < (s.size : Int) then wrap64 ((fr : Int) + (g : Int)) else (s.size : Int)) = (hi : Int) := by
        rw [w64 (by omega) (by omega)]
        split <;> omega
      have e2 : wrap64 ((acc : Int) + 1) = ((acc + 1 : Nat) : Int) := w64s (by omega)
      rw [e1, e2]
      have hmore : (if 1 < hi - fr ∧ hasX s fr hi = true then hi - fr else 0) ≤ hi - fr := by split <;> omega
      obtain ⟨m, hm⟩ : ∃ m, m = (if 1 < hi - fr ∧ hasX s fr hi = true then hi - fr else 0) := ⟨_, rfl⟩
      have e3 : ((if 1 < hi - fr ∧ hasX s fr hi = true then ((hi - fr : Nat) : Int) else 0) : Int) = (m : Int) := by
        rw [hm]; split <;> rfl
      rw [← hm] at hmore ⊢
      clear hm
      have i1 : s.size < fr + g + d := by clear e1 e2 e3; omega
      have i2 : fr + g ≤ s.size + g := by clear e1 e2 e3; omega
      have i3 : acc + 1 + m ≤ 2 * (fr + g) := by clear e1 e2 e3; omega
      have h := ih (fr + g) (acc + 1 + m) i1 i2 i3
      clear e1 e2
      have hf0 : fr ≤ hi := by omega
      have hh0 : hi ≤ s.size := by omega
      have hacc : (0 : Int) ≤ ((acc + 1 : Nat) : Int) ∧ ((acc + 1 : Nat) : Int) ≤ 1000000000 := by omega
      have hd : fr + (hi - fr) = hi := by omega
      have hE : Ev (fun k => spec_bxTests.l0 k s (g : Int) (wrap64 (((acc + 1 : Nat) : Int) + (if 1 < hi - fr ∧ hasX s fr hi = true then ((hi - fr : Nat) : Int) else 0))) ((fr + g : Nat) : Int)) ((acc + (1 + m + tst s g d (fr + g)) : Nat) : Int) := by
        rw [e3, show ((acc + 1 : Nat) : Int) + (m : Int) = ((acc + 1 + m : Nat) : Int) by omega, w64 (by omega) (by omega)]
        rw [show acc + (1 + m + tst s g d (fr + g)) = acc + 1 + m + tst s g d (fr + g) by omega]
        exact h
      exact bxTests_l1 s hs g hg ((acc + 1 : Nat) : Int) fr hi hh0 hf0 _ (hasX s fr hi) hE hacc (hi - fr) fr false hd (Bool.false_or _)
    · rw [if_neg c]
      exact ev_else (by omega) (Ev.now _)
theorem tests_l0 (s : ByteArray) (hs : s.size ≤ 1048576) (g : Nat) (hg0 : 1 ≤ g) (hg : g ≤ 1048576) (d : Nat) : ∀ (fr : Nat) (acc : Nat), s.size < fr + d → fr ≤ s.size + g → acc ≤ 2 * fr →
    Ev (fun k => impl_tests.l0 k s (g : Int) (acc : Int) (fr : Int)) ((acc + tst s g d fr : Nat) : Int) := by
  induction d with
  | zero =>
    intro fr acc h1 h2 h3
    refine Ev.step (fun k => rfl) ?_
    simp only [impl_tests.l0]
    exact ev_else (by omega) (Ev.now _)
  | succ d ih =>
    intro fr acc h1 h2 h3
    refine Ev.step (fun k => rfl) ?_
    simp only [impl_tests.l0, tst]
    by_cases c : fr < s.size
    · rw [if_pos c]
      obtain ⟨hi, hhi⟩ : ∃ hi, hi = min (fr + g) s.size := ⟨_, rfl⟩
      rw [← hhi]
      have e1 : mn (wrap64 ((fr : Int) + (g : Int))) (s.size : Int) = (hi : Int) := by
        rw [w64 (by omega) (by omega)]
        unfold mn
        split <;> omega
      have e2 : wrap64 ((acc : Int) + 1) = ((acc + 1 : Nat) : Int) := w64s (by omega)
      have e4 : wrap64 ((fr : Int) + (g : Int)) = ((fr + g : Nat) : Int) := by rw [w64 (by omega) (by omega)]; omega
      have hsz : (s.extract fr hi).size = hi - fr := by rw [ByteArray.size_extract]; omega
      have hcon : strings_Contains.f (s.extract fr hi) (⟨#[120]⟩ : ByteArray) = some (hasX s fr hi) := by
        unfold strings_Contains.f
        rw [if_pos (by decide)]
        congr 1
        show decide (0 ≤ Lib.indexByte (s.extract fr hi).data.toList 120) = _
        rw [indexByte_has]
        unfold hasX
        simp [ByteArray.data_extract, List.drop_take]
      rw [e1, Int.toNat_natCast, Int.toNat_natCast, hsz, e2, e4, hcon]
      refine ev_if (by omega) (ev_if (by omega) (ev_if (by omega) (ev_if (by omega) ?_)))
      simp only [Option.bind_some]
      by_cases c1 : 1 < hi - fr
      · refine ev_if (by omega) ?_
        cases hx : hasX s fr hi with
        | true =>
          have h := ih (fr + g) (acc + 1 + (hi - fr)) (by omega) (by omega) (by omega)
          rw [if_pos ⟨c1, rfl⟩]
          refine ev_if rfl ?_
          rw [w64 (by omega) (by omega)]
          rw [show ((acc + 1 : Nat) : Int) + ((hi - fr : Nat) : Int) = ((acc + 1 + (hi - fr) : Nat) : Int) by omega]
          rw [show acc + (1 + (hi - fr) + tst s g d (fr + g)) = acc + 1 + (hi - fr) + tst s g d (fr + g) by omega]
          exact h
        | false =>
          have h := ih (fr + g) (acc + 1) (by omega) (by omega) (by omega)
          rw [if_neg (fun h => by cases h.2)]
          refine ev_else (by simp) ?_
          rw [show acc + (1 + 0 + tst s g d (fr + g)) = acc + 1 + tst s g d (fr + g) by omega]
          exact h
      · have h := ih (fr + g) (acc + 1) (by omega) (by omega) (by omega)
        refine ev_else (by omega) ?_
        rw [if_neg (fun h => c1 h.1)]
        rw [show acc + (1 + 0 + tst s g d (fr + g)) = acc + 1 + tst s g d (fr + g) by omega]
        exact h
    · rw [if_neg c]
      exact ev_else (by omega) (Ev.now _)
theorem tests_both (s : ByteArray) (hs : s.size ≤ 1048576) (g : Int) (h0 : 1 ≤ g) (h1 : g ≤ 1048576) : ∃ n : Int, 0 ≤ n ∧ n ≤ 4194306 ∧ Ev (fun k => spec_bxTests.f k s g) n ∧ Ev (fun k => impl_tests.f k s g) n := by
  obtain ⟨m, rfl⟩ := Int.eq_ofNat_of_zero_le (show 0 ≤ g by omega)
  have a := bxTests_l0 s hs m (by omega) (by omega) (s.size + 1) 0 0 (by omega) (by omega) (by omega)
  have b := tests_l0 s hs m (by omega) (by omega) (s.size + 1) 0 0 (by omega) (by omega) (by omega)
  have hb : ∀ d fr, tst s m d fr ≤ 2 * (s.size - fr) := by
    intro d
    induction d with
    | zero => intro fr; simp [tst]
    | succ d ih =>
      intro fr
      have := ih (fr + m)
      simp only [tst]
      by_cases c : fr < s.size
      · rw [if_pos c]
        have hmore : (if 1 < min (fr + m) s.size - fr ∧ hasX s fr (min (fr + m) s.size) = true then min (fr + m) s.size - fr else 0) ≤ min (fr + m) s.size - fr := by split <;> omega
        omega
      · rw [if_neg c]; omega
  have hb0 := hb (s.size + 1) 0
  exact ⟨((0 + tst s m (s.size + 1) 0 : Nat) : Int), by omega, by omega, a, b⟩

theorem tests_all (s : ByteArray) (hs : s.size ≤ 1048576) : ∃ t : Int → Int, ∀ g : Int, 1 ≤ g → g ≤ 1048576 → 0 ≤ t g ∧ t g ≤ 4194306 ∧ Ev (fun k => spec_bxTests.f k s g) (t g) ∧ Ev (fun k => impl_tests.f k s g) (t g) := by
  have h : ∀ g : Int, ∃ n : Int, 1 ≤ g → g ≤ 1048576 → 0 ≤ n ∧ n ≤ 4194306 ∧ Ev (fun k => spec_bxTests.f k s g) n ∧ Ev (fun k => impl_tests.f k s g) n := by
    intro g
    by_cases c : 1 ≤ g ∧ g ≤ 1048576
    · obtain ⟨n, h⟩ := tests_both s hs g c.1 c.2
      exact ⟨n, fun _ _ => h⟩
    · exact ⟨0, fun h1 h2 => absurd ⟨h1, h2⟩ c⟩
  exact ⟨fun g => Classical.choose (h g), fun g => Classical.choose_spec (h g)⟩
theorem ev_all {α : Type} (f : Nat → Nat → Option α) (t : Nat → α) (n : Nat) (h : ∀ i, i < n → Ev (fun k => f k i) (t i)) : ∃ K, ∀ k, K ≤ k → ∀ i, i < n → f k i = some (t i) := by
  induction n with
  | zero => exact ⟨0, fun k _ i hi => absurd hi (Nat.not_lt_zero _)⟩
  | succ n ih =>
    obtain ⟨K, hK⟩ := ih (fun i hi => h i (by omega))
    obtain ⟨K', hK'⟩ := h n (by omega)
    refine ⟨max K K', fun k hk i hi => ?_⟩
    by_cases e : i = n
    · subst e; exact hK' k (by omega)
    · exact hK k (by omega) i (by omega)
theorem bestOf_l0 (s : ByteArray) (hs : s.size ≤ 1048576) (t : Int → Int) (ht : ∀ g : Int, 1 ≤ g → g ≤ 1048576 → Ev (fun k => spec_bxTests.f k s g) (t g)) (d : Nat) : ∀ (g : Nat) (b f : Int), 1 ≤ g → g + d = s.size + 1 →
    Ev (fun k => spec_BestGroupOf.l0 k s b f (g : Int)) ((lstLoop t d (g : Int) b f).1, (lstLoop t d (g : Int) b f).2, true) := by
  induction d with
  | zero =>
    intro g b f h1 h2
    refine Ev.step (fun k => rfl) ?_
    simp only [spec_BestGroupOf.l0]
    exact ev_else (by omega) (Ev.now _)
  | succ d ih =>
    intro g b f h1 h2
    refine Ev.step (fun k => rfl) ?_
    simp only [spec_BestGroupOf.l0, lstLoop]
    refine ev_if (by omega) (Ev.bind (ht g (by omega) (by omega)) ?_)
    have ha := ih (g + 1) (g : Int) (t g) (by omega) (by omega)
    have hb := ih (g + 1) b f (by omega) (by omega)
    rw [show ((g + 1 : Nat) : Int) = (g : Int) + 1 by omega] at ha hb
    rw [w64 (x := (g : Int) + 1) (by omega) (by omega)]
    by_cases c : b = 0
    · rw [if_pos (.inl c)]
      exact ev_if c ha
    · refine ev_else c ?_
      by_cases c2 : t g < f
      · rw [if_pos (.inr c2)]
        exact ev_if c2 ha
      · rw [if_neg (by omega)]
        exact ev_else c2 hb
theorem bestOf_both (s : ByteArray) (hs : s.size ≤ 1048576) : ∃ q, Ev (fun k => spec_BestGroupOf.f k s) q ∧ Ev (fun k => impl_BestGroupOf.f k s) q := by
  obtain ⟨t, ht⟩ := tests_all s hs
  unfold spec_BestGroupOf.f impl_BestGroupOf.f
  rw [isTested_eq s hs]
  simp only [Option.bind_some]
  cases hb : okBox s with
  | false => exact ⟨_, Ev.bind (bxBox_ev s hs) (ev_else (by rw [hb]; simp) (Ev.now _)), ev_else (by simp) (Ev.now _)⟩
  | true =>
    refine ⟨_, Ev.bind (bxBox_ev s hs) (ev_if hb (bestOf_l0 s hs t (fun g h1 h2 => (ht g h1 h2).2.2.1) s.size 1 0 0 (by omega) (by omega))), ev_if rfl ?_⟩
    obtain ⟨K, hK⟩ := ev_all (fun k i => impl_tests.f k s ((i : Int) + 1)) (fun i => t ((i : Int) + 1)) s.size (fun i hi => (ht _ (by omega) (by omega)).2.2.2)
    refine ⟨K, fun k hk => ?_⟩
    have h := hK k hk
    have hz : s.size ≤ 1000000 := by
      unfold okBox at hb
      rw [Bool.and_eq_true] at hb
      have := of_decide_eq_true hb.1
      omega
    show (if s.size ≤ 1000000 ∧ _ then _ else none) = _
    rw [if_pos ⟨hz, fun i hi => by rw [h i hi]; rfl⟩]
    rw [lst_same (tsG k s) t s.size 1 0 0 (fun i hi => by rw [show (1 : Int) + (i : Int) = (i : Int) + 1 by omega]; unfold tsG; rw [h i hi]; rfl)]
    rfl
theorem FnExactBestGroupOf : laws_FnExactBestGroupOf.Pure := by
  intro s _
  apply Ev.rounds (r := true)
  unfold laws_FnExactBestGroupOf.f
  by_cases h : (s.size : Int) > 1048576
  · exact ev_if h (Ev.now _)
  obtain ⟨q, a, b⟩ := bestOf_both s (by omega)
  exact ev_else h (Ev.bind a (Ev.bind b (ev_if rfl (ev_if rfl (ev_else (by simp) (Ev.now _))))))

end Go.Proofs.YtghfhcmjnpjgdaaDoor.Pure
